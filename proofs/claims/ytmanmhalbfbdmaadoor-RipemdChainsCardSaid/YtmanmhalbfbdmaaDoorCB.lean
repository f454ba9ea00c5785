/- What some functions of the program compute, walked through once. -/
import Derived.Test.YtmanmhalbfbdmaaDoorCA
namespace Go.Vm.C05
open Go Go.Proofs
set_option linter.unusedVariables false
set_option linter.unusedSimpArgs false
set_option maxRecDepth 100000
set_option maxHeartbeats 8000000

/-! ### a line, the program's way -/
def pl0 (back : Bool) (k : Nat) : List Int := itN (fun i l => l.set i (plF back i)) k (zeroI 16)
def whF (back : Bool) (q : Nat) : Int := if back = true then 4 - (q : Int) else q
def stepF (cs : List (BitVec 32)) (q : Nat) (wh p : Int) (x h : List (BitVec 32)) : List (BitVec 32) :=
  [h.getD 4 0, rotF (h.getD 0 0 + fF wh (h.getD 1 0) (h.getD 2 0) (h.getD 3 0) + x.getD p.toNat 0 + cs.getD q 0) (turnsB.getD (q * 16 + p.toNat) 0) + h.getD 4 0, h.getD 1 0, rotF (h.getD 2 0) 10, h.getD 3 0]
def rowH (back : Bool) (cs x : List (BitVec 32)) (q : Nat) (pl : List Int) (k : Nat) (h : List (BitVec 32)) : List (BitVec 32) := itN (fun i h => stepF cs q (whF back q) (pl.getD i 0) x h) k h
def rowP (pl : List Int) (k : Nat) (l : List Int) : List Int := itN (fun i l => l.set i (rhoB.getD (pl.getD i 0).toNat 0)) k l
def lineTo (back : Bool) (cs x : List (BitVec 32)) (q : Nat) (h : List (BitVec 32)) : List (BitVec 32) × List Int := itN (fun q s => (rowH back cs x q s.2 16 s.1, rowP s.2 16 s.2)) q (h, pl0 back 16)
def lineF (h x cs : List (BitVec 32)) (back : Bool) : List (BitVec 32) := (lineTo back cs x 5 h).1
/-- places -/
def okL (l : List Int) : Prop := l.length = 16 ∧ ∀ i, 0 ≤ l.getD i 0 ∧ l.getD i 0 < 16
theorem okL_set {l : List Int} (h : okL l) (i : Nat) {x : Int} (hx : 0 ≤ x ∧ x < 16) : okL (l.set i x) := by
  refine ⟨by rw [List.length_set]; exact h.1, fun j => ?_⟩
  by_cases e : i = j
  · subst e
    by_cases hi : i < l.length
    · rw [getD_set_self _ _ _ _ hi]; exact hx
    · rw [List.set_eq_of_length_le (by omega)]; exact h.2 i
  · rw [getD_set_other _ _ _ _ _ e]; exact h.2 j
theorem okL_zero : okL (zeroI 16) := ⟨rfl, fun i => by
  have : (zeroI 16).getD i 0 = 0 := by
    unfold zeroI
    rw [List.getD_eq_getElem?_getD, List.getElem?_replicate]
    split <;> rfl
  rw [this]; decide⟩
theorem pl0_ok (back : Bool) (k : Nat) (hk : k ≤ 16) : okL (pl0 back k) := by
  induction k with
  | zero => exact okL_zero
  | succ k ih =>
    have e : pl0 back (k + 1) = (pl0 back k).set k (plF back k) := itN_succ _ _ _
    rw [e]
    exact okL_set (ih (by omega)) _ (plF_in back k (by omega))
theorem rowP_ok {pl : List Int} (hp : okL pl) (k : Nat) {l : List Int} (h : okL l) : okL (rowP pl k l) :=
  itN_inv (p := okL) (fun i s hs => okL_set hs _ (rhoB_in _ (by have := hp.2 i; omega))) k h
theorem lineTo_ok (back : Bool) (cs x : List (BitVec 32)) (q : Nat) (h : List (BitVec 32)) : okL (lineTo back cs x q h).2 :=
  itN_inv (p := fun (s : List (BitVec 32) × List Int) => okL s.2) (fun q s hs => rowP_ok hs 16 hs) q (pl0_ok back 16 (Nat.le_refl _))

noncomputable def lineS : FSpec := { run := fun ins => match ins with
  | [.agg 5 (.u 32 h), .agg 16 (.u 32 x), .agg 5 (.u 32 cs), .b back] => some (.agg 5 (.u 32 (lineF h x cs back)), [])
  | _ => none }
theorem line_sound : SoundFn Tryd.prog glB 16 lineS.run := by
  have G := good_of (P := Tryd.prog) glB_ro (l := [(17, fS), (18, rotS)]) (by simp only [List.forall_mem_cons]; exact ⟨f_sound, rot_sound, by simp⟩)
  refine soundFn_of_W G Tryd.func16 (by decide) rfl (by decide) ?_
  intro ins ret outs h
  unfold lineS at h
  dsimp only at h
  split at h
  rotate_left
  · cases h
  rename_i h0 x cs back
  cases h
  refine ⟨by show 4 ≤ 97; decide, fun w0 ext av => ?_⟩
  rw [Tryd.ntmps16, st0_eq]
  repeat' first
    | refine W.seq ?_ | (refine W.regS G ?_; dsimp only) | refine SW.nil ?_ | refine thenQ_normal ?_ | refine W.skip ?_ | refine W.exit ?_ | refine thenQ_exit ?_ | refine inBlockQ_exit ?_ | refine inBlockQ_normal ?_
    | (apply SW.toC; refine SWcall.go True.intro ?_) | (apply SW.toOp; refine SWop.go True.intro ?_) | (apply SW.toCG; first | refine SWcall.yes True.intro ?_ | refine SWcall.no True.intro ?_) | (apply SW.toG; first | refine SWop.yes True.intro ?_ | refine SWop.no True.intro ?_)
  refine W.mid (sL [(3, .b back), (4, .p 4 0 0 0), (5, .p 5 0 0 0), (6, .p 6 0 0 0), (8, .p 8 0 0 0), (9, .p 9 0 0 0)] [(4, .agg 5 (.u 32 h0)), (5, .agg 16 (.u 32 x)), (6, .agg 5 (.u 32 cs)), (8, .agg 5 (.u 32 (zeros 32 5))), (9, .agg 16 (.i (pl0 back 16)))] 97) ?_ ?_
  · repeat' first
      | refine W.seq ?_ | (refine W.regS G ?_; dsimp only) | refine SW.nil ?_ | refine thenQ_normal ?_ | refine W.skip ?_ | refine W.exit ?_ | refine thenQ_exit ?_ | refine inBlockQ_exit ?_ | refine inBlockQ_normal ?_ | refine W.block ?_
      | (apply SW.toC; refine SWcall.go True.intro ?_) | (apply SW.toOp; refine SWop.go True.intro ?_) | (apply SW.toCG; first | refine SWcall.yes True.intro ?_ | refine SWcall.no True.intro ?_) | (apply SW.toG; first | refine SWop.yes True.intro ?_ | refine SWop.no True.intro ?_)
    refine W.loopI (ι := {i : Nat // i ≤ 16}) (fun i => sL [(3, .b back), (4, .p 4 0 0 0), (5, .p 5 0 0 0), (6, .p 6 0 0 0), (8, .p 8 0 0 0), (9, .p 9 0 0 0), (18, .i i.1)] [(4, .agg 5 (.u 32 h0)), (5, .agg 16 (.u 32 x)), (6, .agg 5 (.u 32 cs)), (8, .agg 5 (.u 32 (zeros 32 5))), (9, .agg 16 (.i (pl0 back i.1)))] 97) (fun i => 16 - i.1) ⟨0, Nat.zero_le _⟩ (Imp.le ?_) ?_
    · exact sL_leZ True.intro
    rintro ⟨i, hi⟩
    have e : pl0 back (i + 1) = (pl0 back i).set i (plF back i) := itN_succ _ _ _
    have hend : i = 16 → pl0 back 16 = pl0 back i := by rintro rfl; rfl
    have ok := pl0_ok back i (by omega)
    generalize pl0 back i = l at e hend ok ⊢
    have l16 := ok.1
    repeat' first
      | refine W.seq ?_ | (refine W.regS G ?_; dsimp only) | refine SW.nil ?_ | refine thenQ_normal ?_ | refine W.skip ?_ | refine W.exit ?_ | refine thenQ_exit ?_ | refine inBlockQ_exit ?_ | refine inBlockQ_normal ?_ | refine W.block ?_
      | (apply SW.toC; refine SWcall.go True.intro ?_) | (apply SW.toOp; refine SWop.go True.intro ?_) | (apply SW.toCG; first | refine SWcall.yes True.intro ?_ | refine SWcall.no True.intro ?_) | (apply SW.toG; first | refine SWop.yes True.intro ?_ | refine SWop.no True.intro ?_)
    refine W.condZ G True.intro ?_ ?_
    all_goals intro ht
    · have ht' := of_decide_eq_true ht
      repeat' first
        | refine W.seq ?_ | (refine W.regS G ?_; dsimp only) | refine SW.nil ?_ | refine thenQ_normal ?_ | refine W.skip ?_ | refine W.exit ?_ | refine thenQ_exit ?_ | refine inBlockQ_exit ?_ | refine inBlockQ_normal ?_
        | (apply SW.toC; refine SWcall.go True.intro ?_) | (apply SW.toOp; refine SWop.go True.intro ?_) | (apply SW.toCG; first | refine SWcall.yes True.intro ?_ | refine SWcall.no True.intro ?_) | (apply SW.toG; first | refine SWop.yes True.intro ?_ | refine SWop.no True.intro ?_)
      refine W.block ?_
      repeat' first
        | refine W.seq ?_ | (refine W.regS G ?_; dsimp only) | refine SW.nil ?_ | refine thenQ_normal ?_ | refine W.skip ?_ | refine W.exit ?_ | refine thenQ_exit ?_ | refine inBlockQ_exit ?_ | refine inBlockQ_normal ?_
        | (apply SW.toC; refine SWcall.go True.intro ?_) | (apply SW.toOp; refine SWop.go True.intro ?_) | (apply SW.toCG; first | refine SWcall.yes True.intro ?_ | refine SWcall.no True.intro ?_) | (apply SW.toG; first | refine SWop.yes True.intro ?_ | refine SWop.no True.intro ?_)
      refine W.condZ G True.intro ?_ ?_
      all_goals intro hc
      · subst hc
        have hs2 : (l.set i (i : Int)).set i ((9 * (i : Int) + 5) % 16) = l.set i (plF true i) := by rw [List.set_set]; rfl
        repeat' first
          | refine W.seq ?_ | (refine W.regS G ?_; dsimp only) | refine SW.nil ?_ | refine thenQ_normal ?_ | refine W.skip ?_ | refine W.exit ?_ | refine thenQ_exit ?_ | refine inBlockQ_exit ?_ | refine inBlockQ_normal ?_ | refine W.block ?_
          | (apply SW.toC; refine SWcall.go True.intro ?_) | (apply SW.toOp; refine SWop.go True.intro ?_) | (apply SW.toCG; first | refine SWcall.yes True.intro ?_ | refine SWcall.no True.intro ?_) | (apply SW.toG; first | refine SWop.yes True.intro ?_ | refine SWop.no True.intro ?_)
        refine ⟨⟨i + 1, by omega⟩, Imp.le ?_, by show _ - (i + 1) < _ - i; omega⟩
        exact sL_leZ (And.intro e hs2)
      · subst hc
        have hs2 : l.set i (i : Int) = l.set i (plF false i) := rfl
        repeat' first
          | refine W.seq ?_ | (refine W.regS G ?_; dsimp only) | refine SW.nil ?_ | refine thenQ_normal ?_ | refine W.skip ?_ | refine W.exit ?_ | refine thenQ_exit ?_ | refine inBlockQ_exit ?_ | refine inBlockQ_normal ?_ | refine W.block ?_
          | (apply SW.toC; refine SWcall.go True.intro ?_) | (apply SW.toOp; refine SWop.go True.intro ?_) | (apply SW.toCG; first | refine SWcall.yes True.intro ?_ | refine SWcall.no True.intro ?_) | (apply SW.toG; first | refine SWop.yes True.intro ?_ | refine SWop.no True.intro ?_)
        refine ⟨⟨i + 1, by omega⟩, Imp.le ?_, by show _ - (i + 1) < _ - i; omega⟩
        exact sL_leZ (And.intro e hs2)
    have ht' := of_decide_eq_false ht
    obtain rfl : i = 16 := by omega
    have hh := hend rfl
    repeat' first
      | refine W.seq ?_ | (refine W.regS G ?_; dsimp only) | refine SW.nil ?_ | refine thenQ_normal ?_ | refine W.skip ?_ | refine W.exit ?_ | refine thenQ_exit ?_ | refine inBlockQ_exit ?_ | refine inBlockQ_normal ?_ | refine W.block ?_
      | (apply SW.toC; refine SWcall.go True.intro ?_) | (apply SW.toOp; refine SWop.go True.intro ?_) | (apply SW.toCG; first | refine SWcall.yes True.intro ?_ | refine SWcall.no True.intro ?_) | (apply SW.toG; first | refine SWop.yes True.intro ?_ | refine SWop.no True.intro ?_)
    refine Imp.le ?_
    exact sL_leZ hh
  have hF : lineF h0 x cs back = (lineTo back cs x 5 h0).1 := rfl
  have z0 : lineTo back cs x 0 h0 = (h0, pl0 back 16) := rfl
  repeat' first
    | refine W.seq ?_ | (refine W.regS G ?_; dsimp only) | refine SW.nil ?_ | refine thenQ_normal ?_ | refine W.skip ?_ | refine W.exit ?_ | refine thenQ_exit ?_ | refine inBlockQ_exit ?_ | refine inBlockQ_normal ?_ | refine W.block ?_
    | (apply SW.toC; refine SWcall.go True.intro ?_) | (apply SW.toOp; refine SWop.go True.intro ?_) | (apply SW.toCG; first | refine SWcall.yes True.intro ?_ | refine SWcall.no True.intro ?_) | (apply SW.toG; first | refine SWop.yes True.intro ?_ | refine SWop.no True.intro ?_)
  refine W.loopI (ι := {q : Nat // q ≤ 5}) (fun q => sL [(3, .b back), (4, .p 4 0 0 0), (5, .p 5 0 0 0), (6, .p 6 0 0 0), (8, .p 8 0 0 0), (9, .p 9 0 0 0), (32, .i q.1)] [(4, .agg 5 (.u 32 (lineTo back cs x q.1 h0).1)), (5, .agg 16 (.u 32 x)), (6, .agg 5 (.u 32 cs)), (8, .agg 5 (.u 32 (zeros 32 5))), (9, .agg 16 (.i (lineTo back cs x q.1 h0).2))] 97) (fun q => 5 - q.1) ⟨0, Nat.zero_le _⟩ (Imp.le ?_) ?_
  · exact sL_leZ z0
  rintro ⟨q, hq⟩
  have e : lineTo back cs x (q + 1) h0 = (rowH back cs x q (lineTo back cs x q h0).2 16 (lineTo back cs x q h0).1, rowP (lineTo back cs x q h0).2 16 (lineTo back cs x q h0).2) := itN_succ _ _ _
  have hend : q = 5 → lineF h0 x cs back = (lineTo back cs x q h0).1 := by rintro rfl; rfl
  have ok := lineTo_ok back cs x q h0
  generalize lineTo back cs x q h0 = s at e hend ok ⊢
  obtain ⟨h, pl⟩ := s
  dsimp only at e hend ok ⊢
  repeat' first
    | refine W.seq ?_ | (refine W.regS G ?_; dsimp only) | refine SW.nil ?_ | refine thenQ_normal ?_ | refine W.skip ?_ | refine W.exit ?_ | refine thenQ_exit ?_ | refine inBlockQ_exit ?_ | refine inBlockQ_normal ?_ | refine W.block ?_
    | (apply SW.toC; refine SWcall.go True.intro ?_) | (apply SW.toOp; refine SWop.go True.intro ?_) | (apply SW.toCG; first | refine SWcall.yes True.intro ?_ | refine SWcall.no True.intro ?_) | (apply SW.toG; first | refine SWop.yes True.intro ?_ | refine SWop.no True.intro ?_)
  refine W.condZ G True.intro ?_ ?_
  all_goals intro ht
  · have ht' := of_decide_eq_true ht
    repeat' first
      | refine W.seq ?_ | (refine W.regS G ?_; dsimp only) | refine SW.nil ?_ | refine thenQ_normal ?_ | refine W.skip ?_ | refine W.exit ?_ | refine thenQ_exit ?_ | refine inBlockQ_exit ?_ | refine inBlockQ_normal ?_
      | (apply SW.toC; refine SWcall.go True.intro ?_) | (apply SW.toOp; refine SWop.go True.intro ?_) | (apply SW.toCG; first | refine SWcall.yes True.intro ?_ | refine SWcall.no True.intro ?_) | (apply SW.toG; first | refine SWop.yes True.intro ?_ | refine SWop.no True.intro ?_)
    refine W.block ?_
    repeat' first
      | refine W.seq ?_ | (refine W.regS G ?_; dsimp only) | refine SW.nil ?_ | refine thenQ_normal ?_ | refine W.skip ?_ | refine W.exit ?_ | refine thenQ_exit ?_ | refine inBlockQ_exit ?_ | refine inBlockQ_normal ?_
      | (apply SW.toC; refine SWcall.go True.intro ?_) | (apply SW.toOp; refine SWop.go True.intro ?_) | (apply SW.toCG; first | refine SWcall.yes True.intro ?_ | refine SWcall.no True.intro ?_) | (apply SW.toG; first | refine SWop.yes True.intro ?_ | refine SWop.no True.intro ?_)
    refine W.mid (sL [(3, .b back), (4, .p 4 0 0 0), (5, .p 5 0 0 0), (6, .p 6 0 0 0), (8, .p 8 0 0 0), (9, .p 9 0 0 0), (32, .i q), (11, .i q), (12, .i (whF back q))] [(4, .agg 5 (.u 32 h)), (5, .agg 16 (.u 32 x)), (6, .agg 5 (.u 32 cs)), (8, .agg 5 (.u 32 (zeros 32 5))), (9, .agg 16 (.i pl))] 97) ?_ ?_
    · refine W.condZ G True.intro ?_ ?_
      all_goals intro hc
      · subst hc
        have hw : whF true q = 4 - (q : Int) := rfl
        repeat' first
          | refine W.seq ?_ | (refine W.regS G ?_; dsimp only) | refine SW.nil ?_ | refine thenQ_normal ?_ | refine W.skip ?_ | refine W.exit ?_ | refine thenQ_exit ?_ | refine inBlockQ_exit ?_ | refine inBlockQ_normal ?_ | refine W.block ?_
          | (apply SW.toC; refine SWcall.go True.intro ?_) | (apply SW.toOp; refine SWop.go True.intro ?_) | (apply SW.toCG; first | refine SWcall.yes True.intro ?_ | refine SWcall.no True.intro ?_) | (apply SW.toG; first | refine SWop.yes True.intro ?_ | refine SWop.no True.intro ?_)
        refine Imp.le ?_
        exact sL_leZ hw
      · subst hc
        have hw : whF false q = q := rfl
        repeat' first
          | refine W.seq ?_ | (refine W.regS G ?_; dsimp only) | refine SW.nil ?_ | refine thenQ_normal ?_ | refine W.skip ?_ | refine W.exit ?_ | refine thenQ_exit ?_ | refine inBlockQ_exit ?_ | refine inBlockQ_normal ?_ | refine W.block ?_
          | (apply SW.toC; refine SWcall.go True.intro ?_) | (apply SW.toOp; refine SWop.go True.intro ?_) | (apply SW.toCG; first | refine SWcall.yes True.intro ?_ | refine SWcall.no True.intro ?_) | (apply SW.toG; first | refine SWop.yes True.intro ?_ | refine SWop.no True.intro ?_)
        refine Imp.le ?_
        exact sL_leZ hw
    have hR : rowH back cs x q pl 16 h = itN (fun i h => stepF cs q (whF back q) (pl.getD i 0) x h) 16 h := rfl
    generalize whF back q = wh at hR ⊢
    repeat' first
      | refine W.seq ?_ | (refine W.regS G ?_; dsimp only) | refine SW.nil ?_ | refine thenQ_normal ?_ | refine W.skip ?_ | refine W.exit ?_ | refine thenQ_exit ?_ | refine inBlockQ_exit ?_ | refine inBlockQ_normal ?_
      | (apply SW.toC; refine SWcall.go True.intro ?_) | (apply SW.toOp; refine SWop.go True.intro ?_) | (apply SW.toCG; first | refine SWcall.yes True.intro ?_ | refine SWcall.no True.intro ?_) | (apply SW.toG; first | refine SWop.yes True.intro ?_ | refine SWop.no True.intro ?_)
    refine W.mid (sL [(3, .b back), (4, .p 4 0 0 0), (5, .p 5 0 0 0), (6, .p 6 0 0 0), (8, .p 8 0 0 0), (9, .p 9 0 0 0), (32, .i q), (11, .i q)] [(4, .agg 5 (.u 32 (itN (fun i h => stepF cs q wh (pl.getD i 0) x h) 16 h))), (5, .agg 16 (.u 32 x)), (6, .agg 5 (.u 32 cs)), (8, .agg 5 (.u 32 (zeros 32 5))), (9, .agg 16 (.i pl))] 97) ?_ ?_
    · repeat' first
        | refine W.seq ?_ | (refine W.regS G ?_; dsimp only) | refine SW.nil ?_ | refine thenQ_normal ?_ | refine W.skip ?_ | refine W.exit ?_ | refine thenQ_exit ?_ | refine inBlockQ_exit ?_ | refine inBlockQ_normal ?_ | refine W.block ?_
        | (apply SW.toC; refine SWcall.go True.intro ?_) | (apply SW.toOp; refine SWop.go True.intro ?_) | (apply SW.toCG; first | refine SWcall.yes True.intro ?_ | refine SWcall.no True.intro ?_) | (apply SW.toG; first | refine SWop.yes True.intro ?_ | refine SWop.no True.intro ?_)
      refine W.loopI (ι := {i : Nat // i ≤ 16}) (fun i => sL [(3, .b back), (4, .p 4 0 0 0), (5, .p 5 0 0 0), (6, .p 6 0 0 0), (8, .p 8 0 0 0), (9, .p 9 0 0 0), (32, .i q), (11, .i q), (12, .i wh), (39, .agg 16 (.i pl)), (40, .i i.1)] [(4, .agg 5 (.u 32 (itN (fun i h => stepF cs q wh (pl.getD i 0) x h) i.1 h))), (5, .agg 16 (.u 32 x)), (6, .agg 5 (.u 32 cs)), (8, .agg 5 (.u 32 (zeros 32 5))), (9, .agg 16 (.i pl))] 97) (fun i => 16 - i.1) ⟨0, Nat.zero_le _⟩ (Imp.le ?_) ?_
      · exact sL_leZ True.intro
      rintro ⟨i, hi⟩
      have e2 : itN (fun i h => stepF cs q wh (pl.getD i 0) x h) (i + 1) h = stepF cs q wh (pl.getD i 0) x (itN (fun i h => stepF cs q wh (pl.getD i 0) x h) i h) := itN_succ _ _ _
      have hend2 : i = 16 → itN (fun i h => stepF cs q wh (pl.getD i 0) x h) 16 h = itN (fun i h => stepF cs q wh (pl.getD i 0) x h) i h := by rintro rfl; rfl
      generalize itN (fun i h => stepF cs q wh (pl.getD i 0) x h) i h = g at e2 hend2 ⊢
      repeat' first
        | refine W.seq ?_ | (refine W.regS G ?_; dsimp only) | refine SW.nil ?_ | refine thenQ_normal ?_ | refine W.skip ?_ | refine W.exit ?_ | refine thenQ_exit ?_ | refine inBlockQ_exit ?_ | refine inBlockQ_normal ?_ | refine W.block ?_
        | (apply SW.toC; refine SWcall.go True.intro ?_) | (apply SW.toOp; refine SWop.go True.intro ?_) | (apply SW.toCG; first | refine SWcall.yes True.intro ?_ | refine SWcall.no True.intro ?_) | (apply SW.toG; first | refine SWop.yes True.intro ?_ | refine SWop.no True.intro ?_)
      refine W.condZ G True.intro ?_ ?_
      all_goals intro hu
      · have hu' := of_decide_eq_true hu
        have hp := ok.2 i
        have hx : stepF cs q wh (pl.getD i 0) x g = [g.getD 4 0, rotF (g.getD 0 0 + fF wh (g.getD 1 0) (g.getD 2 0) (g.getD 3 0) + x.getD (pl.getD i 0).toNat 0 + cs.getD q 0) (turnsB.getD (q * 16 + (pl.getD i 0).toNat) 0) + g.getD 4 0, g.getD 1 0, rotF (g.getD 2 0) 10, g.getD 3 0] := rfl
        generalize hpp : pl.getD i 0 = p at hp hx e2
        have lt80 := turnsB_len
        repeat' first
          | refine W.seq ?_ | (refine W.regS G ?_; dsimp only) | refine SW.nil ?_ | refine thenQ_normal ?_ | refine W.skip ?_ | refine W.exit ?_ | refine thenQ_exit ?_ | refine inBlockQ_exit ?_ | refine inBlockQ_normal ?_
          | (apply SW.toC; refine SWcall.go (And.intro fS.eq_1 (And.intro rotS.eq_1 (And.intro hpp (And.intro glB3 lt80)))) ?_) | (apply SW.toOp; refine SWop.go (And.intro fS.eq_1 (And.intro rotS.eq_1 (And.intro hpp (And.intro glB3 lt80)))) ?_) | (apply SW.toCG; first | refine SWcall.yes (And.intro fS.eq_1 (And.intro rotS.eq_1 (And.intro hpp (And.intro glB3 lt80)))) ?_ | refine SWcall.no (And.intro fS.eq_1 (And.intro rotS.eq_1 (And.intro hpp (And.intro glB3 lt80)))) ?_) | (apply SW.toG; first | refine SWop.yes (And.intro fS.eq_1 (And.intro rotS.eq_1 (And.intro hpp (And.intro glB3 lt80)))) ?_ | refine SWop.no (And.intro fS.eq_1 (And.intro rotS.eq_1 (And.intro hpp (And.intro glB3 lt80)))) ?_)
        refine W.block ?_
        repeat' first
          | refine W.seq ?_ | (refine W.regS G ?_; dsimp only) | refine SW.nil ?_ | refine thenQ_normal ?_ | refine W.skip ?_ | refine W.exit ?_ | refine thenQ_exit ?_ | refine inBlockQ_exit ?_ | refine inBlockQ_normal ?_
          | (apply SW.toC; refine SWcall.go (And.intro fS.eq_1 (And.intro rotS.eq_1 (And.intro hpp (And.intro glB3 lt80)))) ?_) | (apply SW.toOp; refine SWop.go (And.intro fS.eq_1 (And.intro rotS.eq_1 (And.intro hpp (And.intro glB3 lt80)))) ?_) | (apply SW.toCG; first | refine SWcall.yes (And.intro fS.eq_1 (And.intro rotS.eq_1 (And.intro hpp (And.intro glB3 lt80)))) ?_ | refine SWcall.no (And.intro fS.eq_1 (And.intro rotS.eq_1 (And.intro hpp (And.intro glB3 lt80)))) ?_) | (apply SW.toG; first | refine SWop.yes (And.intro fS.eq_1 (And.intro rotS.eq_1 (And.intro hpp (And.intro glB3 lt80)))) ?_ | refine SWop.no (And.intro fS.eq_1 (And.intro rotS.eq_1 (And.intro hpp (And.intro glB3 lt80)))) ?_)
        refine W.drawS G [[], [0], [], [], [3], [], [5], [], [7], [2, 4, 3, 6, 5, 8, 7], [1, 0, 9, 2, 4, 3, 6, 5, 8, 7], [], [11], [12, 11], [10, 1, 0, 9, 2, 4, 3, 6, 5, 8, 7, 13, 12, 11], [], [15], [16, 15], [14, 10, 1, 0, 9, 2, 4, 3, 6, 5, 8, 7, 13, 12, 11, 17, 16, 15], [18, 14, 10, 1, 0, 9, 2, 4, 3, 6, 5, 8, 7, 13, 12, 11, 17, 16, 15]] hmix ?_
        dsimp only
        repeat' first
          | (apply DW.nil; (focus (decide +kernel)))
          | (apply DW.toC; refine DWcall.go (And.intro fS.eq_1 (And.intro rotS.eq_1 (And.intro hpp (And.intro glB3 lt80)))) ?_) | (apply DW.toOp; refine DWop.go (And.intro fS.eq_1 (And.intro rotS.eq_1 (And.intro hpp (And.intro glB3 lt80)))) ?_) | (apply DW.toCG; first | refine DWcall.yes (And.intro fS.eq_1 (And.intro rotS.eq_1 (And.intro hpp (And.intro glB3 lt80)))) ?_ | refine DWcall.no (And.intro fS.eq_1 (And.intro rotS.eq_1 (And.intro hpp (And.intro glB3 lt80)))) ?_) | (apply DW.toG; first | refine DWop.yes (And.intro fS.eq_1 (And.intro rotS.eq_1 (And.intro hpp (And.intro glB3 lt80)))) ?_ | refine DWop.no (And.intro fS.eq_1 (And.intro rotS.eq_1 (And.intro hpp (And.intro glB3 lt80)))) ?_)
        repeat' first
          | refine W.seq ?_ | (refine W.regS G ?_; dsimp only) | refine SW.nil ?_ | refine thenQ_normal ?_ | refine W.skip ?_ | refine W.exit ?_ | refine thenQ_exit ?_ | refine inBlockQ_exit ?_ | refine inBlockQ_normal ?_
          | (apply SW.toC; refine SWcall.go (And.intro fS.eq_1 (And.intro rotS.eq_1 (And.intro hpp (And.intro glB3 lt80)))) ?_) | (apply SW.toOp; refine SWop.go (And.intro fS.eq_1 (And.intro rotS.eq_1 (And.intro hpp (And.intro glB3 lt80)))) ?_) | (apply SW.toCG; first | refine SWcall.yes (And.intro fS.eq_1 (And.intro rotS.eq_1 (And.intro hpp (And.intro glB3 lt80)))) ?_ | refine SWcall.no (And.intro fS.eq_1 (And.intro rotS.eq_1 (And.intro hpp (And.intro glB3 lt80)))) ?_) | (apply SW.toG; first | refine SWop.yes (And.intro fS.eq_1 (And.intro rotS.eq_1 (And.intro hpp (And.intro glB3 lt80)))) ?_ | refine SWop.no (And.intro fS.eq_1 (And.intro rotS.eq_1 (And.intro hpp (And.intro glB3 lt80)))) ?_)
        refine W.drawS G [[], [], [], [1], [3, 1, 2], [4, 3, 1, 2], [0, 5, 4, 3, 1, 2], [], [7], [6, 0, 5, 4, 3, 1, 2, 8, 7], [9, 6, 0, 5, 4, 3, 1, 2, 8, 7]] hmix ?_
        dsimp only
        repeat' first
          | (apply DW.nil; (focus (decide +kernel)))
          | (apply DW.toC; refine DWcall.go (And.intro fS.eq_1 (And.intro rotS.eq_1 (And.intro hpp (And.intro glB3 lt80)))) ?_) | (apply DW.toOp; refine DWop.go (And.intro fS.eq_1 (And.intro rotS.eq_1 (And.intro hpp (And.intro glB3 lt80)))) ?_) | (apply DW.toCG; first | refine DWcall.yes (And.intro fS.eq_1 (And.intro rotS.eq_1 (And.intro hpp (And.intro glB3 lt80)))) ?_ | refine DWcall.no (And.intro fS.eq_1 (And.intro rotS.eq_1 (And.intro hpp (And.intro glB3 lt80)))) ?_) | (apply DW.toG; first | refine DWop.yes (And.intro fS.eq_1 (And.intro rotS.eq_1 (And.intro hpp (And.intro glB3 lt80)))) ?_ | refine DWop.no (And.intro fS.eq_1 (And.intro rotS.eq_1 (And.intro hpp (And.intro glB3 lt80)))) ?_)
        repeat' first
          | refine W.seq ?_ | (refine W.regS G ?_; dsimp only) | refine SW.nil ?_ | refine thenQ_normal ?_ | refine W.skip ?_ | refine W.exit ?_ | refine thenQ_exit ?_ | refine inBlockQ_exit ?_ | refine inBlockQ_normal ?_
          | (apply SW.toC; refine SWcall.go (And.intro fS.eq_1 (And.intro rotS.eq_1 (And.intro hpp (And.intro glB3 lt80)))) ?_) | (apply SW.toOp; refine SWop.go (And.intro fS.eq_1 (And.intro rotS.eq_1 (And.intro hpp (And.intro glB3 lt80)))) ?_) | (apply SW.toCG; first | refine SWcall.yes (And.intro fS.eq_1 (And.intro rotS.eq_1 (And.intro hpp (And.intro glB3 lt80)))) ?_ | refine SWcall.no (And.intro fS.eq_1 (And.intro rotS.eq_1 (And.intro hpp (And.intro glB3 lt80)))) ?_) | (apply SW.toG; first | refine SWop.yes (And.intro fS.eq_1 (And.intro rotS.eq_1 (And.intro hpp (And.intro glB3 lt80)))) ?_ | refine SWop.no (And.intro fS.eq_1 (And.intro rotS.eq_1 (And.intro hpp (And.intro glB3 lt80)))) ?_)
        refine W.drawS G [[], [0], [], [], [3], [], [5], [6, 5], [], [8], [1, 0, 2, 4, 3, 7, 6, 5, 9, 8], [10, 1, 0, 2, 4, 3, 7, 6, 5, 9, 8]] hmix ?_
        dsimp only
        repeat' first
          | (apply DW.nil; (focus (decide +kernel)))
          | (apply DW.toC; refine DWcall.go (And.intro fS.eq_1 (And.intro rotS.eq_1 (And.intro hpp (And.intro glB3 lt80)))) ?_) | (apply DW.toOp; refine DWop.go (And.intro fS.eq_1 (And.intro rotS.eq_1 (And.intro hpp (And.intro glB3 lt80)))) ?_) | (apply DW.toCG; first | refine DWcall.yes (And.intro fS.eq_1 (And.intro rotS.eq_1 (And.intro hpp (And.intro glB3 lt80)))) ?_ | refine DWcall.no (And.intro fS.eq_1 (And.intro rotS.eq_1 (And.intro hpp (And.intro glB3 lt80)))) ?_) | (apply DW.toG; first | refine DWop.yes (And.intro fS.eq_1 (And.intro rotS.eq_1 (And.intro hpp (And.intro glB3 lt80)))) ?_ | refine DWop.no (And.intro fS.eq_1 (And.intro rotS.eq_1 (And.intro hpp (And.intro glB3 lt80)))) ?_)
        repeat' first
          | refine W.seq ?_ | (refine W.regS G ?_; dsimp only) | refine SW.nil ?_ | refine thenQ_normal ?_ | refine W.skip ?_ | refine W.exit ?_ | refine thenQ_exit ?_ | refine inBlockQ_exit ?_ | refine inBlockQ_normal ?_ | refine W.block ?_
          | (apply SW.toC; refine SWcall.go (And.intro fS.eq_1 (And.intro rotS.eq_1 (And.intro hpp (And.intro glB3 lt80)))) ?_) | (apply SW.toOp; refine SWop.go (And.intro fS.eq_1 (And.intro rotS.eq_1 (And.intro hpp (And.intro glB3 lt80)))) ?_) | (apply SW.toCG; first | refine SWcall.yes (And.intro fS.eq_1 (And.intro rotS.eq_1 (And.intro hpp (And.intro glB3 lt80)))) ?_ | refine SWcall.no (And.intro fS.eq_1 (And.intro rotS.eq_1 (And.intro hpp (And.intro glB3 lt80)))) ?_) | (apply SW.toG; first | refine SWop.yes (And.intro fS.eq_1 (And.intro rotS.eq_1 (And.intro hpp (And.intro glB3 lt80)))) ?_ | refine SWop.no (And.intro fS.eq_1 (And.intro rotS.eq_1 (And.intro hpp (And.intro glB3 lt80)))) ?_)
        refine ⟨⟨i + 1, by omega⟩, Imp.le ?_, by show _ - (i + 1) < _ - i; omega⟩
        exact sL_leZ (And.intro e2 (And.intro hx (And.intro fS.eq_1 (And.intro rotS.eq_1 (And.intro hpp (And.intro glB3 lt80))))))
      have hu' := of_decide_eq_false hu
      obtain rfl : i = 16 := by omega
      have hh := hend2 rfl
      repeat' first
        | refine W.seq ?_ | (refine W.regS G ?_; dsimp only) | refine SW.nil ?_ | refine thenQ_normal ?_ | refine W.skip ?_ | refine W.exit ?_ | refine thenQ_exit ?_ | refine inBlockQ_exit ?_ | refine inBlockQ_normal ?_ | refine W.block ?_
        | (apply SW.toC; refine SWcall.go True.intro ?_) | (apply SW.toOp; refine SWop.go True.intro ?_) | (apply SW.toCG; first | refine SWcall.yes True.intro ?_ | refine SWcall.no True.intro ?_) | (apply SW.toG; first | refine SWop.yes True.intro ?_ | refine SWop.no True.intro ?_)
      refine Imp.le ?_
      exact sL_leZ hh
    rw [← hR]
    generalize rowH back cs x q pl 16 h = h1 at e ⊢
    have lr := rhoB_len
    repeat' first
      | refine W.seq ?_ | (refine W.regS G ?_; dsimp only) | refine SW.nil ?_ | refine thenQ_normal ?_ | refine W.skip ?_ | refine W.exit ?_ | refine thenQ_exit ?_ | refine inBlockQ_exit ?_ | refine inBlockQ_normal ?_ | refine W.block ?_
      | (apply SW.toC; refine SWcall.go True.intro ?_) | (apply SW.toOp; refine SWop.go True.intro ?_) | (apply SW.toCG; first | refine SWcall.yes True.intro ?_ | refine SWcall.no True.intro ?_) | (apply SW.toG; first | refine SWop.yes True.intro ?_ | refine SWop.no True.intro ?_)
    refine W.loopI (ι := {i : Nat // i ≤ 16}) (fun i => sL [(3, .b back), (4, .p 4 0 0 0), (5, .p 5 0 0 0), (6, .p 6 0 0 0), (8, .p 8 0 0 0), (9, .p 9 0 0 0), (32, .i q), (84, .agg 16 (.i pl)), (85, .i i.1)] [(4, .agg 5 (.u 32 h1)), (5, .agg 16 (.u 32 x)), (6, .agg 5 (.u 32 cs)), (8, .agg 5 (.u 32 (zeros 32 5))), (9, .agg 16 (.i (rowP pl i.1 pl)))] 97) (fun i => 16 - i.1) ⟨0, Nat.zero_le _⟩ (Imp.le ?_) ?_
    · exact sL_leZ True.intro
    rintro ⟨i, hi⟩
    have e2 : rowP pl (i + 1) pl = (rowP pl i pl).set i (rhoB.getD (pl.getD i 0).toNat 0) := itN_succ _ _ _
    have hend2 : i = 16 → rowP pl 16 pl = rowP pl i pl := by rintro rfl; rfl
    generalize rowP pl i pl = l at e2 hend2 ⊢
    repeat' first
      | refine W.seq ?_ | (refine W.regS G ?_; dsimp only) | refine SW.nil ?_ | refine thenQ_normal ?_ | refine W.skip ?_ | refine W.exit ?_ | refine thenQ_exit ?_ | refine inBlockQ_exit ?_ | refine inBlockQ_normal ?_ | refine W.block ?_
      | (apply SW.toC; refine SWcall.go True.intro ?_) | (apply SW.toOp; refine SWop.go True.intro ?_) | (apply SW.toCG; first | refine SWcall.yes True.intro ?_ | refine SWcall.no True.intro ?_) | (apply SW.toG; first | refine SWop.yes True.intro ?_ | refine SWop.no True.intro ?_)
    refine W.condZ G True.intro ?_ ?_
    all_goals intro hu
    · have hu' := of_decide_eq_true hu
      have hp := ok.2 i
      generalize hpp : pl.getD i 0 = p at hp e2
      repeat' first
        | refine W.seq ?_ | (refine W.regS G ?_; dsimp only) | refine SW.nil ?_ | refine thenQ_normal ?_ | refine W.skip ?_ | refine W.exit ?_ | refine thenQ_exit ?_ | refine inBlockQ_exit ?_ | refine inBlockQ_normal ?_ | refine W.block ?_
        | (apply SW.toC; refine SWcall.go (And.intro hpp (And.intro glB4 lr)) ?_) | (apply SW.toOp; refine SWop.go (And.intro hpp (And.intro glB4 lr)) ?_) | (apply SW.toCG; first | refine SWcall.yes (And.intro hpp (And.intro glB4 lr)) ?_ | refine SWcall.no (And.intro hpp (And.intro glB4 lr)) ?_) | (apply SW.toG; first | refine SWop.yes (And.intro hpp (And.intro glB4 lr)) ?_ | refine SWop.no (And.intro hpp (And.intro glB4 lr)) ?_)
      refine ⟨⟨i + 1, by omega⟩, Imp.le ?_, by show _ - (i + 1) < _ - i; omega⟩
      exact sL_leZ (And.intro e2 (And.intro hpp (And.intro glB4 lr)))
    have hu' := of_decide_eq_false hu
    obtain rfl : i = 16 := by omega
    have hh := hend2 rfl
    repeat' first
      | refine W.seq ?_ | (refine W.regS G ?_; dsimp only) | refine SW.nil ?_ | refine thenQ_normal ?_ | refine W.skip ?_ | refine W.exit ?_ | refine thenQ_exit ?_ | refine inBlockQ_exit ?_ | refine inBlockQ_normal ?_ | refine W.block ?_
      | (apply SW.toC; refine SWcall.go True.intro ?_) | (apply SW.toOp; refine SWop.go True.intro ?_) | (apply SW.toCG; first | refine SWcall.yes True.intro ?_ | refine SWcall.no True.intro ?_) | (apply SW.toG; first | refine SWop.yes True.intro ?_ | refine SWop.no True.intro ?_)
    refine ⟨⟨q + 1, by omega⟩, Imp.le ?_, by show _ - (q + 1) < _ - q; omega⟩
    exact sL_leZ (And.intro e hh)
  have ht' := of_decide_eq_false ht
  have hh := hend (by omega)
  repeat' first
    | refine W.seq ?_ | (refine W.regS G ?_; dsimp only) | refine SW.nil ?_ | refine thenQ_normal ?_ | refine W.skip ?_ | refine W.exit ?_ | refine thenQ_exit ?_ | refine inBlockQ_exit ?_ | refine inBlockQ_normal ?_ | refine W.block ?_
    | (apply SW.toC; refine SWcall.go True.intro ?_) | (apply SW.toOp; refine SWop.go True.intro ?_) | (apply SW.toCG; first | refine SWcall.yes True.intro ?_ | refine SWcall.no True.intro ?_) | (apply SW.toG; first | refine SWop.yes True.intro ?_ | refine SWop.no True.intro ?_)
  refine W.ret ?_
  repeat' first
    | refine thenQ_ret ?_
    | refine inBlockQ_ret ?_
  refine fin1Z True.intro ?_
  rw [hh]
  exact leV_refl
end Go.Vm.C05

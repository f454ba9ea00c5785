/- What some functions of the program compute, walked through once. -/
import Derived.Test.YthjgpkaamgoodaaCDB
namespace Go.Vm.C01
open Go Go.Proofs
set_option linter.unusedVariables false
set_option linter.unusedSimpArgs false
set_option maxRecDepth 100000
set_option maxHeartbeats 8000000

/-! ### decimal digits -/
theorem revF_at (xs : List (BitVec 8)) : ∀ k, k ≤ xs.length / 2 → ∀ j, j < xs.length → (revF xs k).getD j 0 = if j < k ∨ xs.length - k ≤ j then xs.getD (xs.length - 1 - j) 0 else xs.getD j 0
  | 0, _, j, hj => by
    rw [if_neg (by omega)]
    rfl
  | k + 1, hk, j, hj => by
    have ih := revF_at xs k (by omega)
    have hl := revF_len xs k
    have e : revF xs (k + 1) = revStep xs.length k (revF xs k) := itN_succ _ _ _
    rw [e]
    unfold revStep
    rw [getD_set8 (by rw [List.length_set]; omega)]
    by_cases h1 : j = xs.length - 1 - k
    · rw [if_pos h1, if_pos (by omega), ih k (by omega), if_neg (by omega), h1]
      congr 1
      omega
    · rw [if_neg h1, getD_set8 (by omega)]
      by_cases h2 : j = k
      · rw [if_pos h2, if_pos (by omega), ih (xs.length - 1 - k) (by omega), if_neg (by omega), h2]
      · rw [if_neg h2, ih j hj]
        by_cases h3 : j < k ∨ xs.length - k ≤ j
        · rw [if_pos h3, if_pos (by omega)]
        · rw [if_neg h3, if_neg (by omega)]
theorem revF_eq (xs : List (BitVec 8)) : revF xs (xs.length / 2) = xs.reverse := by
  refine list_ext8 (revF_len xs _) List.length_reverse fun j hj => ?_
  rw [revF_at xs _ (Nat.le_refl _) j hj]
  have e : xs.reverse.getD j 0 = xs.getD (xs.length - 1 - j) 0 := by
    rw [List.getD_eq_getElem?_getD, List.getElem?_reverse hj, ← List.getD_eq_getElem?_getD]
  rw [e]
  by_cases h : j < xs.length / 2 ∨ xs.length - xs.length / 2 ≤ j
  · rw [if_pos h]
  · rw [if_neg h]
    congr 1
    omega
def dgU (x : Nat) : BitVec 8 := BitVec.ofNat 8 (48 + x % 10)
def decR : Nat → Nat → List (BitVec 8)
  | 0, _ => []
  | f + 1, x => dgU x :: (if x / 10 = 0 then [] else decR f (x / 10))
def decD (x : Nat) : List (BitVec 8) := (decR 80 x).reverse
theorem dg_word (x : Nat) : 48#8 + BitVec.setWidth 8 ((wOf (x % 10)).getD 0 0) = dgU x := by
  have h : (wOf (x % 10)).getD 0 0 = BitVec.ofNat 64 (x % 10) := rfl
  rw [h]
  refine BitVec.eq_of_toNat_eq ?_
  unfold dgU
  simp only [BitVec.toNat_add, BitVec.toNat_setWidth, BitVec.toNat_ofNat]
  omega
theorem wOf_zero_iff {x : Nat} (h : x < B256) : wOf x = zeros 64 4 ↔ x = 0 := by
  constructor
  · intro e
    have := congrArg wv e
    rw [wv_wOf, Nat.mod_eq_of_lt h] at this
    rw [this]
    exact wv_zero4
  · rintro rfl
    exact zeros_wOf.symm
theorem wv10 : wv ((zeros 64 4).set 0 10#64) = 10 := by decide
noncomputable def decS : FSpec := { run := fun ins => match ins with
  | [.agg 4 (.u 64 a)] => chk (a.length = 4) (some (.s (decD (wv a)), []))
  | _ => none }
theorem pow80 : B256 < 10 ^ 80 := by decide
/-- digits so far, and what is left -/
structure DI (X f x : Nat) (s : List (BitVec 8)) : Prop where
  all : s ++ decR f x = decR 80 X
  len : s.length + f = 80
  lt : x < 10 ^ f
  b : x < B256
theorem di_next {X f x : Nat} {s : List (BitVec 8)} (h : DI X (f + 1) x s) (hx : ¬ x / 10 = 0) : DI X f (x / 10) (s ++ [dgU x]) := by
  obtain ⟨h1, h2, h3, h4⟩ := h
  refine ⟨?_, ?_, ?_, ?_⟩
  · rw [← h1]
    show (s ++ [dgU x]) ++ decR f (x / 10) = s ++ (dgU x :: (if x / 10 = 0 then [] else decR f (x / 10)))
    rw [if_neg hx]
    simp
  · rw [List.length_append]
    show s.length + 1 + f = 80
    omega
  · rw [Nat.div_lt_iff_lt_mul (by omega)]
    rw [Nat.pow_succ] at h3
    exact h3
  · omega
theorem di_end {X f x : Nat} {s : List (BitVec 8)} (h : DI X (f + 1) x s) (hx : x / 10 = 0) : s ++ [dgU x] = decR 80 X := by
  rw [← h.all]
  show _ = s ++ (dgU x :: (if x / 10 = 0 then [] else decR f (x / 10)))
  rw [if_pos hx]
theorem di_pos {X f x : Nat} {s : List (BitVec 8)} (h : DI X f x s) (hx : f = 0 → x ≠ 0) : ∃ g, f = g + 1 := by
  cases f with
  | zero =>
    have := h.lt
    exact absurd (by omega : x = 0) (hx rfl)
  | succ g => exact ⟨g, rfl⟩
theorem rDec_sound : SoundFn Try.prog glB 51 decS.run := by
  have G := good_of (P := Try.prog) glB_ro (l := [(54, rDMS)]) (by simp only [List.forall_mem_cons]; exact ⟨rDM_sound, by simp⟩)
  refine soundFn_of_W G Try.func51 (by decide) rfl (by decide) ?_
  intro ins ret outs h
  unfold decS at h
  dsimp only at h
  split at h
  rotate_left
  · cases h
  rename_i a
  obtain ⟨la, h'⟩ := chk_some h
  clear h
  cases h'
  refine ⟨by show 1 ≤ 25; decide, fun w0 ext av => ?_⟩
  rw [Try.ntmps51, st0_eq]
  have hX := wv_lt a
  have ea : wOf (wv a) = a := wOf_wv a la
  have hD : decD (wv a) = (decR 80 (wv a)).reverse := rfl
  generalize wv a = X at hX ea hD ⊢
  have e0 : bytesOf { data := #[] } = [] := by rfl
  have l10 : ((zeros 64 4).set 0 10#64).length = 4 := rfl
  repeat' first
    | refine W.seq ?_ | (refine W.regS G ?_; dsimp only) | refine SW.nil ?_ | refine thenQ_normal ?_ | refine W.skip ?_ | refine W.exit ?_ | refine thenQ_exit ?_ | refine inBlockQ_exit ?_ | refine inBlockQ_normal ?_ | refine W.block ?_
    | (apply SW.toC; refine SWcall.go e0 ?_) | (apply SW.toOp; refine SWop.go e0 ?_) | (apply SW.toCG; first | refine SWcall.yes e0 ?_ | refine SWcall.no e0 ?_) | (apply SW.toG; first | refine SWop.yes e0 ?_ | refine SWop.no e0 ?_)
  refine W.loopI (ι := {p : Nat × Nat × List (BitVec 8) // DI X p.1 p.2.1 p.2.2 ∧ (p.1 = 0 → p.2.1 ≠ 0)}) (fun p => sL [(1, .p 1 0 0 0), (3, .s p.1.2.2.reverse)] [(1, .agg 4 (.u 64 (wOf p.1.2.1)))] 25) (fun p => p.1.1) ⟨(80, X, []), ⟨rfl, rfl, Nat.lt_trans hX pow80, hX⟩, fun h => absurd h (by show ¬ (80 = 0); decide)⟩ (Imp.le ?_) ?_
  · exact sL_leZ (And.intro ea e0)
  rintro ⟨⟨f, x, s⟩, hI, hf⟩
  dsimp only at hI hf ⊢
  obtain ⟨g, rfl⟩ := di_pos hI hf
  have hb := hI.b
  have wx : wv (wOf x) = x := by rw [wv_wOf]; exact Nat.mod_eq_of_lt hb
  have lx : (wOf x).length = 4 := rfl
  have w10 := wv10
  have hm : wmod x 10 = x % 10 := rfl
  have hdg := dg_word x
  have ls : s.reverse.length ≤ 80 := by rw [List.length_reverse]; have := hI.len; omega
  have hz := wOf_zero_iff (x := x / 10) (by omega)
  have hcs : dgU x :: s.reverse = (s ++ [dgU x]).reverse := by rw [List.reverse_append]; rfl
  repeat' first
    | refine W.seq ?_ | (refine W.regS G ?_; dsimp only) | refine SW.nil ?_ | refine thenQ_normal ?_ | refine W.skip ?_ | refine W.exit ?_ | refine thenQ_exit ?_ | refine inBlockQ_exit ?_ | refine inBlockQ_normal ?_ | refine W.block ?_
    | (apply SW.toC; refine SWcall.go (And.intro rDMS.eq_1 (And.intro lx (And.intro l10 (And.intro wx (And.intro w10 (And.intro hm hdg)))))) ?_) | (apply SW.toOp; refine SWop.go (And.intro rDMS.eq_1 (And.intro lx (And.intro l10 (And.intro wx (And.intro w10 (And.intro hm hdg)))))) ?_) | (apply SW.toCG; first | refine SWcall.yes (And.intro rDMS.eq_1 (And.intro lx (And.intro l10 (And.intro wx (And.intro w10 (And.intro hm hdg)))))) ?_ | refine SWcall.no (And.intro rDMS.eq_1 (And.intro lx (And.intro l10 (And.intro wx (And.intro w10 (And.intro hm hdg)))))) ?_) | (apply SW.toG; first | refine SWop.yes (And.intro rDMS.eq_1 (And.intro lx (And.intro l10 (And.intro wx (And.intro w10 (And.intro hm hdg)))))) ?_ | refine SWop.no (And.intro rDMS.eq_1 (And.intro lx (And.intro l10 (And.intro wx (And.intro w10 (And.intro hm hdg)))))) ?_)
  refine W.condZ G (And.intro rDMS.eq_1 (And.intro lx (And.intro l10 (And.intro wx (And.intro w10 (And.intro hm hdg)))))) ?_ ?_
  all_goals intro hc
  · have hc' := hz.1 (yes_of hc)
    have hend := di_end hI hc'
    rw [hD, ← hend, ← hcs]
    repeat' first
      | refine W.seq ?_ | (refine W.regS G ?_; dsimp only) | refine SW.nil ?_ | refine thenQ_normal ?_ | refine W.skip ?_ | refine W.exit ?_ | refine thenQ_exit ?_ | refine inBlockQ_exit ?_ | refine inBlockQ_normal ?_ | refine W.block ?_
      | (apply SW.toC; refine SWcall.go (And.intro rDMS.eq_1 (And.intro lx (And.intro l10 (And.intro wx (And.intro w10 (And.intro hm hdg)))))) ?_) | (apply SW.toOp; refine SWop.go (And.intro rDMS.eq_1 (And.intro lx (And.intro l10 (And.intro wx (And.intro w10 (And.intro hm hdg)))))) ?_) | (apply SW.toCG; first | refine SWcall.yes (And.intro rDMS.eq_1 (And.intro lx (And.intro l10 (And.intro wx (And.intro w10 (And.intro hm hdg)))))) ?_ | refine SWcall.no (And.intro rDMS.eq_1 (And.intro lx (And.intro l10 (And.intro wx (And.intro w10 (And.intro hm hdg)))))) ?_) | (apply SW.toG; first | refine SWop.yes (And.intro rDMS.eq_1 (And.intro lx (And.intro l10 (And.intro wx (And.intro w10 (And.intro hm hdg)))))) ?_ | refine SWop.no (And.intro rDMS.eq_1 (And.intro lx (And.intro l10 (And.intro wx (And.intro w10 (And.intro hm hdg)))))) ?_)
    refine W.ret ?_
    repeat' first
      | refine thenQ_ret ?_
      | refine inBlockQ_ret ?_
    refine fin1Z (And.intro rDMS.eq_1 (And.intro lx (And.intro l10 (And.intro wx (And.intro w10 (And.intro hm hdg)))))) ?_
    exact leV_refl
  · have hc' : ¬ x / 10 = 0 := fun c => no_of hc (hz.2 c)
    have hnx := di_next hI hc'
    repeat' first
      | refine W.seq ?_ | (refine W.regS G ?_; dsimp only) | refine SW.nil ?_ | refine thenQ_normal ?_ | refine W.skip ?_ | refine W.exit ?_ | refine thenQ_exit ?_ | refine inBlockQ_exit ?_ | refine inBlockQ_normal ?_ | refine W.block ?_
      | (apply SW.toC; refine SWcall.go (And.intro rDMS.eq_1 (And.intro lx (And.intro l10 (And.intro wx (And.intro w10 (And.intro hm hdg)))))) ?_) | (apply SW.toOp; refine SWop.go (And.intro rDMS.eq_1 (And.intro lx (And.intro l10 (And.intro wx (And.intro w10 (And.intro hm hdg)))))) ?_) | (apply SW.toCG; first | refine SWcall.yes (And.intro rDMS.eq_1 (And.intro lx (And.intro l10 (And.intro wx (And.intro w10 (And.intro hm hdg)))))) ?_ | refine SWcall.no (And.intro rDMS.eq_1 (And.intro lx (And.intro l10 (And.intro wx (And.intro w10 (And.intro hm hdg)))))) ?_) | (apply SW.toG; first | refine SWop.yes (And.intro rDMS.eq_1 (And.intro lx (And.intro l10 (And.intro wx (And.intro w10 (And.intro hm hdg)))))) ?_ | refine SWop.no (And.intro rDMS.eq_1 (And.intro lx (And.intro l10 (And.intro wx (And.intro w10 (And.intro hm hdg)))))) ?_)
    refine ⟨⟨(g, x / 10, s ++ [dgU x]), hnx, fun _ => hc'⟩, Imp.le ?_, by show g < g + 1; omega⟩
    rw [← hcs]
    exact sL_leZ (And.intro rDMS.eq_1 (And.intro lx (And.intro l10 (And.intro wx (And.intro w10 (And.intro hm hdg))))))
theorem dec_sound : SoundFn Try.prog glB 50 decS.run := by
  have G := good_of (P := Try.prog) glB_ro (l := [(80, divS), (81, revS)]) (by simp only [List.forall_mem_cons]; exact ⟨div_sound, rev_sound, by simp⟩)
  refine soundFn_of_W G Try.func50 (by decide) rfl (by decide) ?_
  intro ins ret outs h
  unfold decS at h
  dsimp only at h
  split at h
  rotate_left
  · cases h
  rename_i a
  obtain ⟨la, h'⟩ := chk_some h
  clear h
  cases h'
  refine ⟨by show 1 ≤ 27; decide, fun w0 ext av => ?_⟩
  rw [Try.ntmps50, st0_eq]
  have hX := wv_lt a
  have ea : wOf (wv a) = a := wOf_wv a la
  have hD : decD (wv a) = (decR 80 (wv a)).reverse := rfl
  generalize wv a = X at hX ea hD ⊢
  have l10 : ((zeros 64 4).set 0 10#64).length = 4 := rfl
  repeat' first
    | refine W.seq ?_ | (refine W.regS G ?_; dsimp only) | refine SW.nil ?_ | refine thenQ_normal ?_ | refine W.skip ?_ | refine W.exit ?_ | refine thenQ_exit ?_ | refine inBlockQ_exit ?_ | refine inBlockQ_normal ?_ | refine W.block ?_
    | (apply SW.toC; refine SWcall.go True.intro ?_) | (apply SW.toOp; refine SWop.go True.intro ?_) | (apply SW.toCG; first | refine SWcall.yes True.intro ?_ | refine SWcall.no True.intro ?_) | (apply SW.toG; first | refine SWop.yes True.intro ?_ | refine SWop.no True.intro ?_)
  refine W.loopI (ι := Option {p : Nat × Nat × List (BitVec 8) // DI X p.1 p.2.1 p.2.2 ∧ p.2.1 ≠ 0 ∧ 0 < p.2.2.length}) (fun o => match o with
    | none => sL [(1, .p 1 0 0 0), (3, .nils)] [(1, .agg 4 (.u 64 (wOf X)))] 27
    | some p => sL [(1, .p 1 0 0 0), (3, .gr 18 p.1.2.2.length)] [(1, .agg 4 (.u 64 (wOf p.1.2.1))), (18, .row (.u 8 p.1.2.2))] 27) (fun o => match o with
    | none => 80
    | some p => p.1.1) none (Imp.le ?_) ?_
  · dsimp only
    exact sL_leZ ea
  have w10 := wv10
  rintro (_ | ⟨⟨f, x, s⟩, hI, hf, hs⟩)
  · dsimp only
    have hI : DI X (79 + 1) X [] := ⟨rfl, rfl, Nat.lt_trans hX pow80, hX⟩
    have wx : wv (wOf X) = X := by rw [wv_wOf]; exact Nat.mod_eq_of_lt hX
    have lx : (wOf X).length = 4 := rfl
    have hm : wmod X 10 = X % 10 := rfl
    have hdg := dg_word X
    have hz := wOf_zero_iff (x := X / 10) (by omega)
    repeat' first
      | refine W.seq ?_ | (refine W.regS G ?_; dsimp only) | refine SW.nil ?_ | refine thenQ_normal ?_ | refine W.skip ?_ | refine W.exit ?_ | refine thenQ_exit ?_ | refine inBlockQ_exit ?_ | refine inBlockQ_normal ?_ | refine W.block ?_
      | (apply SW.toC; refine SWcall.go (And.intro divS.eq_1 (And.intro lx (And.intro l10 (And.intro wx (And.intro w10 (And.intro hm hdg)))))) ?_) | (apply SW.toOp; refine SWop.go (And.intro divS.eq_1 (And.intro lx (And.intro l10 (And.intro wx (And.intro w10 (And.intro hm hdg)))))) ?_) | (apply SW.toCG; first | refine SWcall.yes (And.intro divS.eq_1 (And.intro lx (And.intro l10 (And.intro wx (And.intro w10 (And.intro hm hdg)))))) ?_ | refine SWcall.no (And.intro divS.eq_1 (And.intro lx (And.intro l10 (And.intro wx (And.intro w10 (And.intro hm hdg)))))) ?_) | (apply SW.toG; first | refine SWop.yes (And.intro divS.eq_1 (And.intro lx (And.intro l10 (And.intro wx (And.intro w10 (And.intro hm hdg)))))) ?_ | refine SWop.no (And.intro divS.eq_1 (And.intro lx (And.intro l10 (And.intro wx (And.intro w10 (And.intro hm hdg)))))) ?_)
    refine W.condZ G (And.intro divS.eq_1 (And.intro lx (And.intro l10 (And.intro wx (And.intro w10 (And.intro hm hdg)))))) ?_ ?_
    all_goals intro hc
    · have hc' := hz.1 (yes_of hc)
      have hend := di_end hI hc'
      obtain ⟨S, hSe⟩ : ∃ S, [dgU X] = S := ⟨_, rfl⟩
      have lX : S.length = 1 := by rw [← hSe]; rfl
      have r1 : revF S (1 / 2) = decD X := by
        have := revF_eq S
        rw [lX] at this
        rw [this, hD, ← hend, ← hSe]
        rfl
      have lD : (decD X).length = 1 := by rw [← r1, revF_len, lX]
      have sD : subL (decD X) 0 1 = decD X := by rw [← lD]; exact subL_all _
      refine W.imp (s := sL [(3, .os 18 0 0 0 1)] [(18, .row (.u 8 S))] 27) ?_ (Imp.opn 18 ?_)
      rotate_left
      · exact sL_leZ (And.intro hSe (And.intro divS.eq_1 (And.intro lx (And.intro l10 (And.intro wx (And.intro w10 (And.intro hm hdg)))))))
      repeat' first
        | refine W.seq ?_ | (refine W.regS G ?_; dsimp only) | refine SW.nil ?_ | refine thenQ_normal ?_ | refine W.skip ?_ | refine W.exit ?_ | refine thenQ_exit ?_ | refine inBlockQ_exit ?_ | refine inBlockQ_normal ?_ | refine W.block ?_
        | (apply SW.toC; refine SWcall.go (And.intro revS.eq_1 (And.intro lX (And.intro r1 lD))) ?_) | (apply SW.toOp; refine SWop.go (And.intro revS.eq_1 (And.intro lX (And.intro r1 lD))) ?_) | (apply SW.toCG; first | refine SWcall.yes (And.intro revS.eq_1 (And.intro lX (And.intro r1 lD))) ?_ | refine SWcall.no (And.intro revS.eq_1 (And.intro lX (And.intro r1 lD))) ?_) | (apply SW.toG; first | refine SWop.yes (And.intro revS.eq_1 (And.intro lX (And.intro r1 lD))) ?_ | refine SWop.no (And.intro revS.eq_1 (And.intro lX (And.intro r1 lD))) ?_)
      refine W.ret ?_
      repeat' first
        | refine thenQ_ret ?_
        | refine inBlockQ_ret ?_
      refine fin1Z (And.intro revS.eq_1 (And.intro lX (And.intro r1 lD))) ?_
      exact leV_refl
    · have hc' : ¬ X / 10 = 0 := fun c => no_of hc (hz.2 c)
      have hnx := di_next hI hc'
      repeat' first
        | refine W.seq ?_ | (refine W.regS G ?_; dsimp only) | refine SW.nil ?_ | refine thenQ_normal ?_ | refine W.skip ?_ | refine W.exit ?_ | refine thenQ_exit ?_ | refine inBlockQ_exit ?_ | refine inBlockQ_normal ?_ | refine W.block ?_
        | (apply SW.toC; refine SWcall.go True.intro ?_) | (apply SW.toOp; refine SWop.go True.intro ?_) | (apply SW.toCG; first | refine SWcall.yes True.intro ?_ | refine SWcall.no True.intro ?_) | (apply SW.toG; first | refine SWop.yes True.intro ?_ | refine SWop.no True.intro ?_)
      refine ⟨some ⟨(79, X / 10, [dgU X]), hnx, hc', by show 0 < 1; omega⟩, Imp.le ?_, by show 79 < 80; omega⟩
      exact sL_leZ True.intro
  · dsimp only at hI hf hs ⊢
    obtain ⟨g, rfl⟩ := di_pos hI (fun _ => hf)
    have hb := hI.b
    have wx : wv (wOf x) = x := by rw [wv_wOf]; exact Nat.mod_eq_of_lt hb
    have lx : (wOf x).length = 4 := rfl
    have hm : wmod x 10 = x % 10 := rfl
    have hdg := dg_word x
    have hlen := hI.len
    have hz := wOf_zero_iff (x := x / 10) (by omega)
    repeat' first
      | refine W.seq ?_ | (refine W.regS G ?_; dsimp only) | refine SW.nil ?_ | refine thenQ_normal ?_ | refine W.skip ?_ | refine W.exit ?_ | refine thenQ_exit ?_ | refine inBlockQ_exit ?_ | refine inBlockQ_normal ?_ | refine W.block ?_
      | (apply SW.toC; refine SWcall.go (And.intro divS.eq_1 (And.intro lx (And.intro l10 (And.intro wx (And.intro w10 (And.intro hm hdg)))))) ?_) | (apply SW.toOp; refine SWop.go (And.intro divS.eq_1 (And.intro lx (And.intro l10 (And.intro wx (And.intro w10 (And.intro hm hdg)))))) ?_) | (apply SW.toCG; first | refine SWcall.yes (And.intro divS.eq_1 (And.intro lx (And.intro l10 (And.intro wx (And.intro w10 (And.intro hm hdg)))))) ?_ | refine SWcall.no (And.intro divS.eq_1 (And.intro lx (And.intro l10 (And.intro wx (And.intro w10 (And.intro hm hdg)))))) ?_) | (apply SW.toG; first | refine SWop.yes (And.intro divS.eq_1 (And.intro lx (And.intro l10 (And.intro wx (And.intro w10 (And.intro hm hdg)))))) ?_ | refine SWop.no (And.intro divS.eq_1 (And.intro lx (And.intro l10 (And.intro wx (And.intro w10 (And.intro hm hdg)))))) ?_)
    refine W.condZ G (And.intro divS.eq_1 (And.intro lx (And.intro l10 (And.intro wx (And.intro w10 (And.intro hm hdg)))))) ?_ ?_
    all_goals intro hc
    · have hc' := hz.1 (yes_of hc)
      have hend := di_end hI hc'
      obtain ⟨S, hSe⟩ : ∃ S, s ++ [dgU x] = S := ⟨_, rfl⟩
      obtain ⟨N, hN⟩ : ∃ N, s.length + 1 = N := ⟨_, rfl⟩
      have lX : S.length = N := by rw [← hSe, ← hN]; simp
      have r1 : revF S (N / 2) = decD X := by
        have := revF_eq S
        rw [lX] at this
        rw [this, hD, ← hend, ← hSe]
      have hN0 : 0 < N := by omega
      have hop : opV 18 (V.gr 18 N) = V.os 18 0 0 0 N := if_pos ⟨rfl, hN0⟩
      have hN80 : N ≤ 80 := by omega
      have lD : (decD X).length = N := by rw [← r1, revF_len, lX]
      have sD : subL (decD X) 0 N = decD X := by rw [← lD]; exact subL_all _
      refine W.imp (s := sL [(3, .os 18 0 0 0 N)] [(18, .row (.u 8 S))] 27) ?_ (Imp.opn 18 ?_)
      rotate_left
      · refine sL_leZ (And.intro hSe (And.intro hN hop)) (hE := ?_)
        intro zz
        simp only [okE, ↓put_at, ↓purge_at, lookN, Option.map_some, St.opn, ↓reduceIte, Nat.reduceEqDiff, zz, and_self]
      repeat' first
        | refine W.seq ?_ | (refine W.regS G ?_; dsimp only) | refine SW.nil ?_ | refine thenQ_normal ?_ | refine W.skip ?_ | refine W.exit ?_ | refine thenQ_exit ?_ | refine inBlockQ_exit ?_ | refine inBlockQ_normal ?_ | refine W.block ?_
        | (apply SW.toC; refine SWcall.go (And.intro revS.eq_1 (And.intro lX (And.intro r1 lD))) ?_) | (apply SW.toOp; refine SWop.go (And.intro revS.eq_1 (And.intro lX (And.intro r1 lD))) ?_) | (apply SW.toCG; first | refine SWcall.yes (And.intro revS.eq_1 (And.intro lX (And.intro r1 lD))) ?_ | refine SWcall.no (And.intro revS.eq_1 (And.intro lX (And.intro r1 lD))) ?_) | (apply SW.toG; first | refine SWop.yes (And.intro revS.eq_1 (And.intro lX (And.intro r1 lD))) ?_ | refine SWop.no (And.intro revS.eq_1 (And.intro lX (And.intro r1 lD))) ?_)
      refine W.ret ?_
      repeat' first
        | refine thenQ_ret ?_
        | refine inBlockQ_ret ?_
      refine fin1Z (And.intro revS.eq_1 (And.intro lX (And.intro r1 lD))) ?_
      exact leV_refl
    · have hc' : ¬ x / 10 = 0 := fun c => no_of hc (hz.2 c)
      have hnx := di_next hI hc'
      have hl2 : (s ++ [dgU x]).length = s.length + 1 := by simp
      repeat' first
        | refine W.seq ?_ | (refine W.regS G ?_; dsimp only) | refine SW.nil ?_ | refine thenQ_normal ?_ | refine W.skip ?_ | refine W.exit ?_ | refine thenQ_exit ?_ | refine inBlockQ_exit ?_ | refine inBlockQ_normal ?_ | refine W.block ?_
        | (apply SW.toC; refine SWcall.go True.intro ?_) | (apply SW.toOp; refine SWop.go True.intro ?_) | (apply SW.toCG; first | refine SWcall.yes True.intro ?_ | refine SWcall.no True.intro ?_) | (apply SW.toG; first | refine SWop.yes True.intro ?_ | refine SWop.no True.intro ?_)
      refine ⟨some ⟨(g, x / 10, s ++ [dgU x]), hnx, hc', by dsimp only; omega⟩, Imp.le ?_, by show g < g + 1; omega⟩
      exact sL_leZ hl2
end Go.Vm.C01

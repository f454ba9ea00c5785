/- What some functions of the program compute, walked through once. -/
import Derived.Test.YthjgpkaamgoodaaCB
namespace Go.Vm.C01
open Go Go.Proofs
set_option linter.unusedVariables false
set_option linter.unusedSimpArgs false
set_option maxRecDepth 100000
set_option maxHeartbeats 8000000

noncomputable def sumS : FSpec := { run := fun ins => match ins with
  | [.sl false (.u 64 a), .sl false (.u 64 b)] => chk (a.length ≤ 1000000 ∧ b.length ≤ 1000000) (some (.sl true (.u 64 (sumD a b)), []))
  | _ => none }
theorem sum_sound : SoundFn Try.prog glB 74 sumS.run := by
  have G := good_of (P := Try.prog) glB_ro (l := []) (by simp)
  refine soundFn_of_W G Try.func74 (by decide) rfl (by decide) ?_
  intro ins ret outs h
  unfold sumS at h
  dsimp only at h
  split at h
  rotate_left
  · cases h
  rename_i a b
  obtain ⟨hl, h'⟩ := chk_some h
  clear h
  cases h'
  refine ⟨by show 2 ≤ 54; decide, fun w0 ext av => ?_⟩
  rw [Try.ntmps74, st0_eq]
  have hF : sumD a b = (sumTo a b (max a.length b.length)).1 ++ [(sumTo a b (max a.length b.length)).2] := rfl
  generalize hN : max a.length b.length = N at hF
  have z0 : sumTo a b 0 = ([], 0#64) := rfl
  repeat' first
    | refine W.seq ?_ | (refine W.regS G ?_; dsimp only) | refine SW.nil ?_ | refine thenQ_normal ?_ | refine W.skip ?_ | refine W.exit ?_ | refine thenQ_exit ?_ | refine inBlockQ_exit ?_ | refine inBlockQ_normal ?_ | refine W.block ?_
    | (apply SW.toC; refine SWcall.go True.intro ?_) | (apply SW.toOp; refine SWop.go True.intro ?_) | (apply SW.toCG; first | refine SWcall.yes True.intro ?_ | refine SWcall.no True.intro ?_) | (apply SW.toG; first | refine SWop.yes True.intro ?_ | refine SWop.no True.intro ?_)
  refine W.loopI (ι := {i : Nat // i ≤ N}) (fun i => sL [(0, .sl false (.u 64 a)), (1, .sl false (.u 64 b)), (5, .gr 9 i.1), (6, .u 64 (sumTo a b i.1).2), (7, .i i.1)] [(9, .row (.u 64 (sumTo a b i.1).1))] 54) (fun i => N - i.1) ⟨0, Nat.zero_le _⟩ (Imp.le ?_) ?_
  · exact sL_leZ z0
  rintro ⟨i, hi⟩
  have e : sumTo a b (i + 1) = sumStep a b i (sumTo a b i) := itN_succ _ _ _
  have l0 := sumTo_len a b i
  have hend : i = N → sumTo a b N = sumTo a b i := by rintro rfl; rfl
  generalize sumTo a b i = p at e l0 hend ⊢
  obtain ⟨l, c⟩ := p
  dsimp only at e l0 hend ⊢
  have hs2 : sumStep a b i (l, c) = (l ++ [(c + a.getD i 0 + b.getD i 0) &&& 65535#64], (c + a.getD i 0 + b.getD i 0) >>> 16) := rfl
  by_cases ht : i < N
  · refine W.seq ?_
    refine W.mid (sL [(0, .sl false (.u 64 a)), (1, .sl false (.u 64 b)), (5, .gr 9 i), (6, .u 64 c), (7, .i i)] [(9, .row (.u 64 l))] 54) ?_ ?_
    · by_cases ha : i < a.length
      · have e4 : decide ((i : Int) < (a.length : Int)) = true := by simp; omega
        repeat' first
          | refine W.seq ?_ | (refine W.regS G ?_; dsimp only) | refine SW.nil ?_ | refine thenQ_normal ?_ | refine W.skip ?_ | refine W.exit ?_ | refine thenQ_exit ?_ | refine inBlockQ_exit ?_ | refine inBlockQ_normal ?_ | refine W.block ?_
          | (apply SW.toC; refine SWcall.go (And.intro l0 e4) ?_) | (apply SW.toOp; refine SWop.go (And.intro l0 e4) ?_) | (apply SW.toCG; first | refine SWcall.yes (And.intro l0 e4) ?_ | refine SWcall.no (And.intro l0 e4) ?_) | (apply SW.toG; first | refine SWop.yes (And.intro l0 e4) ?_ | refine SWop.no (And.intro l0 e4) ?_)
        refine W.condZ G (And.intro l0 e4) ?_ ?_
        all_goals intro hc
        · repeat' first
            | refine W.seq ?_ | (refine W.regS G ?_; dsimp only) | refine SW.nil ?_ | refine thenQ_normal ?_ | refine W.skip ?_ | refine W.exit ?_ | refine thenQ_exit ?_ | refine inBlockQ_exit ?_ | refine inBlockQ_normal ?_ | refine W.block ?_
            | (apply SW.toC; refine SWcall.go (And.intro l0 e4) ?_) | (apply SW.toOp; refine SWop.go (And.intro l0 e4) ?_) | (apply SW.toCG; first | refine SWcall.yes (And.intro l0 e4) ?_ | refine SWcall.no (And.intro l0 e4) ?_) | (apply SW.toG; first | refine SWop.yes (And.intro l0 e4) ?_ | refine SWop.no (And.intro l0 e4) ?_)
          refine Imp.le ?_
          exact sL_leZ (And.intro l0 e4)
        · exact absurd hc (by decide)
      · have e4 : decide ((i : Int) < (a.length : Int)) = false := by simp; omega
        have e5 : decide ((i : Int) < (b.length : Int)) = true := by simp; omega
        repeat' first
          | refine W.seq ?_ | (refine W.regS G ?_; dsimp only) | refine SW.nil ?_ | refine thenQ_normal ?_ | refine W.skip ?_ | refine W.exit ?_ | refine thenQ_exit ?_ | refine inBlockQ_exit ?_ | refine inBlockQ_normal ?_ | refine W.block ?_
          | (apply SW.toC; refine SWcall.go (And.intro l0 (And.intro e4 e5)) ?_) | (apply SW.toOp; refine SWop.go (And.intro l0 (And.intro e4 e5)) ?_) | (apply SW.toCG; first | refine SWcall.yes (And.intro l0 (And.intro e4 e5)) ?_ | refine SWcall.no (And.intro l0 (And.intro e4 e5)) ?_) | (apply SW.toG; first | refine SWop.yes (And.intro l0 (And.intro e4 e5)) ?_ | refine SWop.no (And.intro l0 (And.intro e4 e5)) ?_)
        refine W.condZ G (And.intro l0 (And.intro e4 e5)) ?_ ?_
        all_goals intro hc
        · repeat' first
            | refine W.seq ?_ | (refine W.regS G ?_; dsimp only) | refine SW.nil ?_ | refine thenQ_normal ?_ | refine W.skip ?_ | refine W.exit ?_ | refine thenQ_exit ?_ | refine inBlockQ_exit ?_ | refine inBlockQ_normal ?_ | refine W.block ?_
            | (apply SW.toC; refine SWcall.go (And.intro l0 (And.intro e4 e5)) ?_) | (apply SW.toOp; refine SWop.go (And.intro l0 (And.intro e4 e5)) ?_) | (apply SW.toCG; first | refine SWcall.yes (And.intro l0 (And.intro e4 e5)) ?_ | refine SWcall.no (And.intro l0 (And.intro e4 e5)) ?_) | (apply SW.toG; first | refine SWop.yes (And.intro l0 (And.intro e4 e5)) ?_ | refine SWop.no (And.intro l0 (And.intro e4 e5)) ?_)
          refine Imp.le ?_
          exact sL_leZ (And.intro l0 (And.intro e4 e5))
        · exact absurd hc (by decide)
    repeat' first
      | refine W.seq ?_ | (refine W.regS G ?_; dsimp only) | refine SW.nil ?_ | refine thenQ_normal ?_ | refine W.skip ?_ | refine W.exit ?_ | refine thenQ_exit ?_ | refine inBlockQ_exit ?_ | refine inBlockQ_normal ?_
      | (apply SW.toC; refine SWcall.go l0 ?_) | (apply SW.toOp; refine SWop.go l0 ?_) | (apply SW.toCG; first | refine SWcall.yes l0 ?_ | refine SWcall.no l0 ?_) | (apply SW.toG; first | refine SWop.yes l0 ?_ | refine SWop.no l0 ?_)
    refine W.block ?_
    repeat' first
      | refine W.seq ?_ | (refine W.regS G ?_; dsimp only) | refine SW.nil ?_ | refine thenQ_normal ?_ | refine W.skip ?_ | refine W.exit ?_ | refine thenQ_exit ?_ | refine inBlockQ_exit ?_ | refine inBlockQ_normal ?_
      | (apply SW.toC; refine SWcall.go l0 ?_) | (apply SW.toOp; refine SWop.go l0 ?_) | (apply SW.toCG; first | refine SWcall.yes l0 ?_ | refine SWcall.no l0 ?_) | (apply SW.toG; first | refine SWop.yes l0 ?_ | refine SWop.no l0 ?_)
    refine W.mid (sL [(0, .sl false (.u 64 a)), (1, .sl false (.u 64 b)), (5, .gr 9 i), (6, .u 64 c), (7, .i i), (8, .u 64 (c + a.getD i 0))] [(9, .row (.u 64 l))] 54) ?_ ?_
    · refine W.condZ G l0 ?_ ?_
      all_goals intro hc
      · have hc' := of_decide_eq_true hc
        repeat' first
          | refine W.seq ?_ | (refine W.regS G ?_; dsimp only) | refine SW.nil ?_ | refine thenQ_normal ?_ | refine W.skip ?_ | refine W.exit ?_ | refine thenQ_exit ?_ | refine inBlockQ_exit ?_ | refine inBlockQ_normal ?_ | refine W.block ?_
          | (apply SW.toC; refine SWcall.go l0 ?_) | (apply SW.toOp; refine SWop.go l0 ?_) | (apply SW.toCG; first | refine SWcall.yes l0 ?_ | refine SWcall.no l0 ?_) | (apply SW.toG; first | refine SWop.yes l0 ?_ | refine SWop.no l0 ?_)
        refine Imp.le ?_
        exact sL_leZ l0
      · have hc' := of_decide_eq_false hc
        have e6 : c + a.getD i 0 = c := by rw [getD_off _ _ _ (by omega)]; simp
        repeat' first
          | refine W.seq ?_ | (refine W.regS G ?_; dsimp only) | refine SW.nil ?_ | refine thenQ_normal ?_ | refine W.skip ?_ | refine W.exit ?_ | refine thenQ_exit ?_ | refine inBlockQ_exit ?_ | refine inBlockQ_normal ?_ | refine W.block ?_
          | (apply SW.toC; refine SWcall.go l0 ?_) | (apply SW.toOp; refine SWop.go l0 ?_) | (apply SW.toCG; first | refine SWcall.yes l0 ?_ | refine SWcall.no l0 ?_) | (apply SW.toG; first | refine SWop.yes l0 ?_ | refine SWop.no l0 ?_)
        refine Imp.le ?_
        exact sL_leZ (And.intro e6 l0)
    generalize c + a.getD i 0 = y at hs2 ⊢
    repeat' first
      | refine W.seq ?_ | (refine W.regS G ?_; dsimp only) | refine SW.nil ?_ | refine thenQ_normal ?_ | refine W.skip ?_ | refine W.exit ?_ | refine thenQ_exit ?_ | refine inBlockQ_exit ?_ | refine inBlockQ_normal ?_
      | (apply SW.toC; refine SWcall.go l0 ?_) | (apply SW.toOp; refine SWop.go l0 ?_) | (apply SW.toCG; first | refine SWcall.yes l0 ?_ | refine SWcall.no l0 ?_) | (apply SW.toG; first | refine SWop.yes l0 ?_ | refine SWop.no l0 ?_)
    refine W.mid (sL [(0, .sl false (.u 64 a)), (1, .sl false (.u 64 b)), (5, .gr 9 i), (6, .u 64 c), (7, .i i), (8, .u 64 (y + b.getD i 0))] [(9, .row (.u 64 l))] 54) ?_ ?_
    · refine W.condZ G l0 ?_ ?_
      all_goals intro hc
      · have hc' := of_decide_eq_true hc
        repeat' first
          | refine W.seq ?_ | (refine W.regS G ?_; dsimp only) | refine SW.nil ?_ | refine thenQ_normal ?_ | refine W.skip ?_ | refine W.exit ?_ | refine thenQ_exit ?_ | refine inBlockQ_exit ?_ | refine inBlockQ_normal ?_ | refine W.block ?_
          | (apply SW.toC; refine SWcall.go l0 ?_) | (apply SW.toOp; refine SWop.go l0 ?_) | (apply SW.toCG; first | refine SWcall.yes l0 ?_ | refine SWcall.no l0 ?_) | (apply SW.toG; first | refine SWop.yes l0 ?_ | refine SWop.no l0 ?_)
        refine Imp.le ?_
        exact sL_leZ l0
      · have hc' := of_decide_eq_false hc
        have e6 : y + b.getD i 0 = y := by rw [getD_off _ _ _ (by omega)]; simp
        repeat' first
          | refine W.seq ?_ | (refine W.regS G ?_; dsimp only) | refine SW.nil ?_ | refine thenQ_normal ?_ | refine W.skip ?_ | refine W.exit ?_ | refine thenQ_exit ?_ | refine inBlockQ_exit ?_ | refine inBlockQ_normal ?_ | refine W.block ?_
          | (apply SW.toC; refine SWcall.go l0 ?_) | (apply SW.toOp; refine SWop.go l0 ?_) | (apply SW.toCG; first | refine SWcall.yes l0 ?_ | refine SWcall.no l0 ?_) | (apply SW.toG; first | refine SWop.yes l0 ?_ | refine SWop.no l0 ?_)
        refine Imp.le ?_
        exact sL_leZ (And.intro e6 l0)
    generalize y + b.getD i 0 = z at hs2 ⊢
    repeat' first
      | refine W.seq ?_ | (refine W.regS G ?_; dsimp only) | refine SW.nil ?_ | refine thenQ_normal ?_ | refine W.skip ?_ | refine W.exit ?_ | refine thenQ_exit ?_ | refine inBlockQ_exit ?_ | refine inBlockQ_normal ?_ | refine W.block ?_
      | (apply SW.toC; refine SWcall.go l0 ?_) | (apply SW.toOp; refine SWop.go l0 ?_) | (apply SW.toCG; first | refine SWcall.yes l0 ?_ | refine SWcall.no l0 ?_) | (apply SW.toG; first | refine SWop.yes l0 ?_ | refine SWop.no l0 ?_)
    refine ⟨⟨i + 1, by omega⟩, Imp.le ?_, by show _ - (i + 1) < _ - i; omega⟩
    exact sL_leZ (And.intro e (And.intro hs2 l0))
  obtain rfl : i = N := by omega
  have hh := hend rfl
  have e4 : decide ((i : Int) < (a.length : Int)) = false := by simp; omega
  have e5 : decide ((i : Int) < (b.length : Int)) = false := by simp; omega
  repeat' first
    | refine W.seq ?_ | (refine W.regS G ?_; dsimp only) | refine SW.nil ?_ | refine thenQ_normal ?_ | refine W.skip ?_ | refine W.exit ?_ | refine thenQ_exit ?_ | refine inBlockQ_exit ?_ | refine inBlockQ_normal ?_ | refine W.block ?_
    | (apply SW.toC; refine SWcall.go (And.intro l0 (And.intro e4 e5)) ?_) | (apply SW.toOp; refine SWop.go (And.intro l0 (And.intro e4 e5)) ?_) | (apply SW.toCG; first | refine SWcall.yes (And.intro l0 (And.intro e4 e5)) ?_ | refine SWcall.no (And.intro l0 (And.intro e4 e5)) ?_) | (apply SW.toG; first | refine SWop.yes (And.intro l0 (And.intro e4 e5)) ?_ | refine SWop.no (And.intro l0 (And.intro e4 e5)) ?_)
  refine W.condZ G (And.intro l0 (And.intro e4 e5)) ?_ ?_
  all_goals intro hc
  · exact absurd hc (by decide)
  rw [hh] at hF
  repeat' first
    | refine W.seq ?_ | (refine W.regS G ?_; dsimp only) | refine SW.nil ?_ | refine thenQ_normal ?_ | refine W.skip ?_ | refine W.exit ?_ | refine thenQ_exit ?_ | refine inBlockQ_exit ?_ | refine inBlockQ_normal ?_ | refine W.block ?_
    | (apply SW.toC; refine SWcall.go (And.intro l0 (And.intro e4 e5)) ?_) | (apply SW.toOp; refine SWop.go (And.intro l0 (And.intro e4 e5)) ?_) | (apply SW.toCG; first | refine SWcall.yes (And.intro l0 (And.intro e4 e5)) ?_ | refine SWcall.no (And.intro l0 (And.intro e4 e5)) ?_) | (apply SW.toG; first | refine SWop.yes (And.intro l0 (And.intro e4 e5)) ?_ | refine SWop.no (And.intro l0 (And.intro e4 e5)) ?_)
  refine W.ret ?_
  repeat' first
    | refine thenQ_ret ?_
    | refine inBlockQ_ret ?_
  refine fin1Z (And.intro l0 (And.intro l0 (And.intro e4 e5))) ?_
  rw [hF]
  exact leV_refl
end Go.Vm.C01

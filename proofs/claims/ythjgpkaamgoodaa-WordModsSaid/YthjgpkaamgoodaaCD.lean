/- What some functions of the program compute, walked through once. -/
import Derived.Test.YthjgpkaamgoodaaCC
namespace Go.Vm.C01
open Go Go.Proofs
set_option linter.unusedVariables false
set_option linter.unusedSimpArgs false
set_option maxRecDepth 100000
set_option maxHeartbeats 8000000

noncomputable def prodS : FSpec := { run := fun ins => match ins with
  | [.sl false (.u 64 a), .sl false (.u 64 b)] => chk (a.length + b.length ≤ 1000000) (some (.sl true (.u 64 (prodF a b)), []))
  | _ => none }
theorem prod_sound : SoundFn Try.prog glB 77 prodS.run := by
  have G := good_of (P := Try.prog) glB_ro (l := []) (by simp)
  refine soundFn_of_W G Try.func77 (by decide) rfl (by decide) ?_
  intro ins ret outs h
  unfold prodS at h
  dsimp only at h
  split at h
  rotate_left
  · cases h
  rename_i a b
  obtain ⟨hl, h'⟩ := chk_some h
  clear h
  cases h'
  refine ⟨by show 2 ≤ 63; decide, fun w0 ext av => ?_⟩
  rw [Try.ntmps77, st0_eq]
  have hF : prodF a b = itN (prodRow a b) a.length (zeros 64 (a.length + b.length)) := rfl
  generalize hz : zeros 64 (a.length + b.length) = z at hF
  have lz : z.length = a.length + b.length := by rw [← hz]; simp [zeros]
  have hlen : ∀ k, (itN (prodRow a b) k z).length = a.length + b.length := fun k => by rw [← hz]; exact prodTo_len a b k
  repeat' first
    | refine W.seq ?_ | (refine W.regS G ?_; dsimp only) | refine SW.nil ?_ | refine thenQ_normal ?_ | refine W.skip ?_ | refine W.exit ?_ | refine thenQ_exit ?_ | refine inBlockQ_exit ?_ | refine inBlockQ_normal ?_ | refine W.block ?_
    | (apply SW.toC; refine SWcall.go hz ?_) | (apply SW.toOp; refine SWop.go hz ?_) | (apply SW.toCG; first | refine SWcall.yes hz ?_ | refine SWcall.no hz ?_) | (apply SW.toG; first | refine SWop.yes hz ?_ | refine SWop.no hz ?_)
  refine W.loopI (ι := {i : Nat // i ≤ a.length}) (fun i => sL [(0, .sl false (.u 64 a)), (1, .sl false (.u 64 b)), (5, .gr 15 (a.length + b.length)), (6, .i i.1)] [(15, .row (.u 64 (itN (prodRow a b) i.1 z)))] 63) (fun i => a.length - i.1) ⟨0, Nat.zero_le _⟩ (Imp.le ?_) ?_
  · exact sL_leZ hz
  rintro ⟨i, hi⟩
  have e : itN (prodRow a b) (i + 1) z = prodRow a b i (itN (prodRow a b) i z) := itN_succ _ _ _
  have hend : i = a.length → prodF a b = itN (prodRow a b) i z := by rintro rfl; exact hF
  have l0 := hlen i
  generalize itN (prodRow a b) i z = out at e hend l0 ⊢
  repeat' first
    | refine W.seq ?_ | (refine W.regS G ?_; dsimp only) | refine SW.nil ?_ | refine thenQ_normal ?_ | refine W.skip ?_ | refine W.exit ?_ | refine thenQ_exit ?_ | refine inBlockQ_exit ?_ | refine inBlockQ_normal ?_ | refine W.block ?_
    | (apply SW.toC; refine SWcall.go l0 ?_) | (apply SW.toOp; refine SWop.go l0 ?_) | (apply SW.toCG; first | refine SWcall.yes l0 ?_ | refine SWcall.no l0 ?_) | (apply SW.toG; first | refine SWop.yes l0 ?_ | refine SWop.no l0 ?_)
  refine W.condZ G l0 ?_ ?_
  all_goals intro ht
  · have ht' := of_decide_eq_true ht
    have hR : prodRow a b i out = (prodIn (a.getD i 0) b i b.length out).1.set (i + b.length) (prodIn (a.getD i 0) b i b.length out).2 := rfl
    have hlen2 : ∀ k, (prodIn (a.getD i 0) b i k out).1.length = a.length + b.length := fun k => by rw [prodIn_len, l0]
    generalize hx : a.getD i 0 = x at hR hlen2
    repeat' first
      | refine W.seq ?_ | (refine W.regS G ?_; dsimp only) | refine SW.nil ?_ | refine thenQ_normal ?_ | refine W.skip ?_ | refine W.exit ?_ | refine thenQ_exit ?_ | refine inBlockQ_exit ?_ | refine inBlockQ_normal ?_
      | (apply SW.toC; refine SWcall.go l0 ?_) | (apply SW.toOp; refine SWop.go l0 ?_) | (apply SW.toCG; first | refine SWcall.yes l0 ?_ | refine SWcall.no l0 ?_) | (apply SW.toG; first | refine SWop.yes l0 ?_ | refine SWop.no l0 ?_)
    refine W.block ?_
    repeat' first
      | refine W.seq ?_ | (refine W.regS G ?_; dsimp only) | refine SW.nil ?_ | refine thenQ_normal ?_ | refine W.skip ?_ | refine W.exit ?_ | refine thenQ_exit ?_ | refine inBlockQ_exit ?_ | refine inBlockQ_normal ?_
      | (apply SW.toC; refine SWcall.go l0 ?_) | (apply SW.toOp; refine SWop.go l0 ?_) | (apply SW.toCG; first | refine SWcall.yes l0 ?_ | refine SWcall.no l0 ?_) | (apply SW.toG; first | refine SWop.yes l0 ?_ | refine SWop.no l0 ?_)
    refine W.mid (sL [(0, .sl false (.u 64 a)), (1, .sl false (.u 64 b)), (5, .gr 15 (a.length + b.length)), (6, .i i), (7, .u 64 (prodIn x b i b.length out).2)] [(15, .row (.u 64 (prodIn x b i b.length out).1))] 63) ?_ ?_
    · repeat' first
        | refine W.seq ?_ | (refine W.regS G ?_; dsimp only) | refine SW.nil ?_ | refine thenQ_normal ?_ | refine W.skip ?_ | refine W.exit ?_ | refine thenQ_exit ?_ | refine inBlockQ_exit ?_ | refine inBlockQ_normal ?_ | refine W.block ?_
        | (apply SW.toC; refine SWcall.go l0 ?_) | (apply SW.toOp; refine SWop.go l0 ?_) | (apply SW.toCG; first | refine SWcall.yes l0 ?_ | refine SWcall.no l0 ?_) | (apply SW.toG; first | refine SWop.yes l0 ?_ | refine SWop.no l0 ?_)
      refine W.loopI (ι := {j : Nat // j ≤ b.length}) (fun j => sL [(0, .sl false (.u 64 a)), (1, .sl false (.u 64 b)), (5, .gr 15 (a.length + b.length)), (6, .i i), (7, .u 64 (prodIn x b i j.1 out).2), (8, .i j.1)] [(15, .row (.u 64 (prodIn x b i j.1 out).1))] 63) (fun j => b.length - j.1) ⟨0, Nat.zero_le _⟩ (Imp.le ?_) ?_
      · exact sL_leZ l0
      rintro ⟨j, hj⟩
      have e2 : prodIn x b i (j + 1) out = prodStep x b i j (prodIn x b i j out) := by rw [prodIn, itN_succ]; rfl
      have hend2 : j = b.length → prodIn x b i b.length out = prodIn x b i j out := by rintro rfl; rfl
      have l2 := hlen2 j
      generalize prodIn x b i j out = p at e2 hend2 l2 ⊢
      obtain ⟨q, c⟩ := p
      dsimp only at e2 hend2 l2 ⊢
      repeat' first
        | refine W.seq ?_ | (refine W.regS G ?_; dsimp only) | refine SW.nil ?_ | refine thenQ_normal ?_ | refine W.skip ?_ | refine W.exit ?_ | refine thenQ_exit ?_ | refine inBlockQ_exit ?_ | refine inBlockQ_normal ?_ | refine W.block ?_
        | (apply SW.toC; refine SWcall.go l2 ?_) | (apply SW.toOp; refine SWop.go l2 ?_) | (apply SW.toCG; first | refine SWcall.yes l2 ?_ | refine SWcall.no l2 ?_) | (apply SW.toG; first | refine SWop.yes l2 ?_ | refine SWop.no l2 ?_)
      refine W.condZ G l2 ?_ ?_
      all_goals intro hu
      · have hu' := of_decide_eq_true hu
        repeat' first
          | refine W.seq ?_ | (refine W.regS G ?_; dsimp only) | refine SW.nil ?_ | refine thenQ_normal ?_ | refine W.skip ?_ | refine W.exit ?_ | refine thenQ_exit ?_ | refine inBlockQ_exit ?_ | refine inBlockQ_normal ?_ | refine W.block ?_
          | (apply SW.toC; refine SWcall.go (And.intro l2 hx) ?_) | (apply SW.toOp; refine SWop.go (And.intro l2 hx) ?_) | (apply SW.toCG; first | refine SWcall.yes (And.intro l2 hx) ?_ | refine SWcall.no (And.intro l2 hx) ?_) | (apply SW.toG; first | refine SWop.yes (And.intro l2 hx) ?_ | refine SWop.no (And.intro l2 hx) ?_)
        refine W.drawS G [[], [], [], [1, 2], [0, 3, 1, 2], [4, 0, 3, 1, 2], [], [], [6, 7], [8, 6, 7], [], [], [10, 11], [12, 10, 11], [9, 8, 6, 7, 13, 12, 10, 11], [5, 4, 0, 3, 1, 2, 14, 9, 8, 6, 7, 13, 12, 10, 11], [], [15, 5, 4, 0, 3, 1, 2, 14, 9, 8, 6, 7, 13, 12, 10, 11, 16], [17, 15, 5, 4, 0, 3, 1, 2, 14, 9, 8, 6, 7, 13, 12, 10, 11, 16]] hmix ?_
        dsimp only
        repeat' first
          | (apply DW.nil; (focus (decide +kernel)))
          | (apply DW.toC; refine DWcall.go (And.intro l2 hx) ?_) | (apply DW.toOp; refine DWop.go (And.intro l2 hx) ?_) | (apply DW.toCG; first | refine DWcall.yes (And.intro l2 hx) ?_ | refine DWcall.no (And.intro l2 hx) ?_) | (apply DW.toG; first | refine DWop.yes (And.intro l2 hx) ?_ | refine DWop.no (And.intro l2 hx) ?_)
        repeat' first
          | refine W.seq ?_ | (refine W.regS G ?_; dsimp only) | refine SW.nil ?_ | refine thenQ_normal ?_ | refine W.skip ?_ | refine W.exit ?_ | refine thenQ_exit ?_ | refine inBlockQ_exit ?_ | refine inBlockQ_normal ?_ | refine W.block ?_
          | (apply SW.toC; refine SWcall.go (And.intro l2 hx) ?_) | (apply SW.toOp; refine SWop.go (And.intro l2 hx) ?_) | (apply SW.toCG; first | refine SWcall.yes (And.intro l2 hx) ?_ | refine SWcall.no (And.intro l2 hx) ?_) | (apply SW.toG; first | refine SWop.yes (And.intro l2 hx) ?_ | refine SWop.no (And.intro l2 hx) ?_)
        have e3 : prodStep x b i j (q, c) = (q.set (i + j) ((q.getD (i + j) 0 + x * b.getD j 0 + c) &&& 65535#64), (q.getD (i + j) 0 + x * b.getD j 0 + c) >>> 16) := rfl
        refine ⟨⟨j + 1, by omega⟩, Imp.le ?_, by show _ - (j + 1) < _ - j; omega⟩
        exact sL_leZ (And.intro e2 (And.intro e3 (And.intro l2 hx)))
      have hu' := of_decide_eq_false hu
      have hh := hend2 (by omega)
      repeat' first
        | refine W.seq ?_ | (refine W.regS G ?_; dsimp only) | refine SW.nil ?_ | refine thenQ_normal ?_ | refine W.skip ?_ | refine W.exit ?_ | refine thenQ_exit ?_ | refine inBlockQ_exit ?_ | refine inBlockQ_normal ?_ | refine W.block ?_
        | (apply SW.toC; refine SWcall.go l2 ?_) | (apply SW.toOp; refine SWop.go l2 ?_) | (apply SW.toCG; first | refine SWcall.yes l2 ?_ | refine SWcall.no l2 ?_) | (apply SW.toG; first | refine SWop.yes l2 ?_ | refine SWop.no l2 ?_)
      refine Imp.le ?_
      exact sL_leZ (And.intro hh l2)
    have l3 := hlen2 b.length
    generalize prodIn x b i b.length out = p at hR l3 ⊢
    repeat' first
      | refine W.seq ?_ | (refine W.regS G ?_; dsimp only) | refine SW.nil ?_ | refine thenQ_normal ?_ | refine W.skip ?_ | refine W.exit ?_ | refine thenQ_exit ?_ | refine inBlockQ_exit ?_ | refine inBlockQ_normal ?_ | refine W.block ?_
      | (apply SW.toC; refine SWcall.go l3 ?_) | (apply SW.toOp; refine SWop.go l3 ?_) | (apply SW.toCG; first | refine SWcall.yes l3 ?_ | refine SWcall.no l3 ?_) | (apply SW.toG; first | refine SWop.yes l3 ?_ | refine SWop.no l3 ?_)
    refine ⟨⟨i + 1, by omega⟩, Imp.le ?_, by show _ - (i + 1) < _ - i; omega⟩
    exact sL_leZ (And.intro e (And.intro hR l3))
  have ht' := of_decide_eq_false ht
  have hh := hend (by omega)
  repeat' first
    | refine W.seq ?_ | (refine W.regS G ?_; dsimp only) | refine SW.nil ?_ | refine thenQ_normal ?_ | refine W.skip ?_ | refine W.exit ?_ | refine thenQ_exit ?_ | refine inBlockQ_exit ?_ | refine inBlockQ_normal ?_ | refine W.block ?_
    | (apply SW.toC; refine SWcall.go l0 ?_) | (apply SW.toOp; refine SWop.go l0 ?_) | (apply SW.toCG; first | refine SWcall.yes l0 ?_ | refine SWcall.no l0 ?_) | (apply SW.toG; first | refine SWop.yes l0 ?_ | refine SWop.no l0 ?_)
  refine W.ret ?_
  repeat' first
    | refine thenQ_ret ?_
    | refine inBlockQ_ret ?_
  refine fin1Z (And.intro l0 l0) ?_
  rw [hh]
  exact leV_refl

noncomputable def lessS : FSpec := { run := fun ins => match ins with
  | [.sl false (.u 64 a), .sl false (.u 64 b)] => chk (a.length ≤ 1000000 ∧ b.length ≤ 1000000) (some (.b (lessF a b (max a.length b.length)), []))
  | _ => none }
theorem less_sound : SoundFn Try.prog glB 70 lessS.run := by
  have G := good_of (P := Try.prog) glB_ro (l := []) (by simp)
  refine soundFn_of_W G Try.func70 (by decide) rfl (by decide) ?_
  intro ins ret outs h
  unfold lessS at h
  dsimp only at h
  split at h
  rotate_left
  · cases h
  rename_i a b
  obtain ⟨hl, h'⟩ := chk_some h
  clear h
  cases h'
  refine ⟨by show 2 ≤ 45; decide, fun w0 ext av => ?_⟩
  rw [Try.ntmps70, st0_eq]
  generalize hN : max a.length b.length = N
  repeat' first
    | refine W.seq ?_ | (refine W.regS G ?_; dsimp only) | refine SW.nil ?_ | refine thenQ_normal ?_ | refine W.skip ?_ | refine W.exit ?_ | refine thenQ_exit ?_ | refine inBlockQ_exit ?_ | refine inBlockQ_normal ?_
    | (apply SW.toC; refine SWcall.go True.intro ?_) | (apply SW.toOp; refine SWop.go True.intro ?_) | (apply SW.toCG; first | refine SWcall.yes True.intro ?_ | refine SWcall.no True.intro ?_) | (apply SW.toG; first | refine SWop.yes True.intro ?_ | refine SWop.no True.intro ?_)
  refine W.mid (sL [(0, .sl false (.u 64 a)), (1, .sl false (.u 64 b)), (5, .i N)] [] 45) ?_ ?_
  · refine W.condZ G True.intro ?_ ?_
    all_goals intro hc
    · have hc' := of_decide_eq_true hc
      have e : (b.length : Int) = N := by omega
      repeat' first
        | refine W.seq ?_ | (refine W.regS G ?_; dsimp only) | refine SW.nil ?_ | refine thenQ_normal ?_ | refine W.skip ?_ | refine W.exit ?_ | refine thenQ_exit ?_ | refine inBlockQ_exit ?_ | refine inBlockQ_normal ?_ | refine W.block ?_
        | (apply SW.toC; refine SWcall.go True.intro ?_) | (apply SW.toOp; refine SWop.go True.intro ?_) | (apply SW.toCG; first | refine SWcall.yes True.intro ?_ | refine SWcall.no True.intro ?_) | (apply SW.toG; first | refine SWop.yes True.intro ?_ | refine SWop.no True.intro ?_)
      refine Imp.le ?_
      exact sL_leZ e
    · have hc' := of_decide_eq_false hc
      have e : (a.length : Int) = N := by omega
      repeat' first
        | refine W.seq ?_ | (refine W.regS G ?_; dsimp only) | refine SW.nil ?_ | refine thenQ_normal ?_ | refine W.skip ?_ | refine W.exit ?_ | refine thenQ_exit ?_ | refine inBlockQ_exit ?_ | refine inBlockQ_normal ?_ | refine W.block ?_
        | (apply SW.toC; refine SWcall.go True.intro ?_) | (apply SW.toOp; refine SWop.go True.intro ?_) | (apply SW.toCG; first | refine SWcall.yes True.intro ?_ | refine SWcall.no True.intro ?_) | (apply SW.toG; first | refine SWop.yes True.intro ?_ | refine SWop.no True.intro ?_)
      refine Imp.le ?_
      exact sL_leZ e
  repeat' first
    | refine W.seq ?_ | (refine W.regS G ?_; dsimp only) | refine SW.nil ?_ | refine thenQ_normal ?_ | refine W.skip ?_ | refine W.exit ?_ | refine thenQ_exit ?_ | refine inBlockQ_exit ?_ | refine inBlockQ_normal ?_ | refine W.block ?_
    | (apply SW.toC; refine SWcall.go True.intro ?_) | (apply SW.toOp; refine SWop.go True.intro ?_) | (apply SW.toCG; first | refine SWcall.yes True.intro ?_ | refine SWcall.no True.intro ?_) | (apply SW.toG; first | refine SWop.yes True.intro ?_ | refine SWop.no True.intro ?_)
  refine W.loopI (ι := {k : Nat // k ≤ N ∧ lessF a b N = lessF a b k}) (fun k => sL [(0, .sl false (.u 64 a)), (1, .sl false (.u 64 b)), (6, .i ((k.1 : Int) - 1))] [] 45) (fun k => k.1) ⟨N, Nat.le_refl _, rfl⟩ (Imp.le ?_) ?_
  · exact sL_leZ True.intro
  rintro ⟨k, hk, hR⟩
  repeat' first
    | refine W.seq ?_ | (refine W.regS G ?_; dsimp only) | refine SW.nil ?_ | refine thenQ_normal ?_ | refine W.skip ?_ | refine W.exit ?_ | refine thenQ_exit ?_ | refine inBlockQ_exit ?_ | refine inBlockQ_normal ?_ | refine W.block ?_
    | (apply SW.toC; refine SWcall.go True.intro ?_) | (apply SW.toOp; refine SWop.go True.intro ?_) | (apply SW.toCG; first | refine SWcall.yes True.intro ?_ | refine SWcall.no True.intro ?_) | (apply SW.toG; first | refine SWop.yes True.intro ?_ | refine SWop.no True.intro ?_)
  refine W.condZ G True.intro ?_ ?_
  all_goals intro ht
  · have ht' := of_decide_eq_true ht
    obtain ⟨j, rfl⟩ : ∃ j, k = j + 1 := ⟨k - 1, by omega⟩
    have ej : (((j + 1 : Nat) : Int) - 1) = (j : Int) := by omega
    have hS : lessF a b (j + 1) = if a.getD j 0 = b.getD j 0 then lessF a b j else decide (a.getD j 0 < b.getD j 0) := rfl
    repeat' first
      | refine W.seq ?_ | (refine W.regS G ?_; dsimp only) | refine SW.nil ?_ | refine thenQ_normal ?_ | refine W.skip ?_ | refine W.exit ?_ | refine thenQ_exit ?_ | refine inBlockQ_exit ?_ | refine inBlockQ_normal ?_
      | (apply SW.toC; refine SWcall.go ej ?_) | (apply SW.toOp; refine SWop.go ej ?_) | (apply SW.toCG; first | refine SWcall.yes ej ?_ | refine SWcall.no ej ?_) | (apply SW.toG; first | refine SWop.yes ej ?_ | refine SWop.no ej ?_)
    refine W.block ?_
    repeat' first
      | refine W.seq ?_ | (refine W.regS G ?_; dsimp only) | refine SW.nil ?_ | refine thenQ_normal ?_ | refine W.skip ?_ | refine W.exit ?_ | refine thenQ_exit ?_ | refine inBlockQ_exit ?_ | refine inBlockQ_normal ?_
      | (apply SW.toC; refine SWcall.go ej ?_) | (apply SW.toOp; refine SWop.go ej ?_) | (apply SW.toCG; first | refine SWcall.yes ej ?_ | refine SWcall.no ej ?_) | (apply SW.toG; first | refine SWop.yes ej ?_ | refine SWop.no ej ?_)
    refine W.mid (sL [(0, .sl false (.u 64 a)), (1, .sl false (.u 64 b)), (6, .i j), (7, .u 64 (a.getD j 0)), (8, .u 64 0)] [] 45) ?_ ?_
    · refine W.condZ G ej ?_ ?_
      all_goals intro hc
      · have hc' := of_decide_eq_true hc
        repeat' first
          | refine W.seq ?_ | (refine W.regS G ?_; dsimp only) | refine SW.nil ?_ | refine thenQ_normal ?_ | refine W.skip ?_ | refine W.exit ?_ | refine thenQ_exit ?_ | refine inBlockQ_exit ?_ | refine inBlockQ_normal ?_ | refine W.block ?_
          | (apply SW.toC; refine SWcall.go ej ?_) | (apply SW.toOp; refine SWop.go ej ?_) | (apply SW.toCG; first | refine SWcall.yes ej ?_ | refine SWcall.no ej ?_) | (apply SW.toG; first | refine SWop.yes ej ?_ | refine SWop.no ej ?_)
        refine Imp.le ?_
        exact sL_leZ ej
      · have hc' := of_decide_eq_false hc
        have e : a.getD j 0 = 0 := by rw [List.getD_eq_getElem?_getD, List.getElem?_eq_none (by omega)]; rfl
        repeat' first
          | refine W.seq ?_ | (refine W.regS G ?_; dsimp only) | refine SW.nil ?_ | refine thenQ_normal ?_ | refine W.skip ?_ | refine W.exit ?_ | refine thenQ_exit ?_ | refine inBlockQ_exit ?_ | refine inBlockQ_normal ?_ | refine W.block ?_
          | (apply SW.toC; refine SWcall.go ej ?_) | (apply SW.toOp; refine SWop.go ej ?_) | (apply SW.toCG; first | refine SWcall.yes ej ?_ | refine SWcall.no ej ?_) | (apply SW.toG; first | refine SWop.yes ej ?_ | refine SWop.no ej ?_)
        refine Imp.le ?_
        exact sL_leZ (And.intro e ej)
    repeat' first
      | refine W.seq ?_ | (refine W.regS G ?_; dsimp only) | refine SW.nil ?_ | refine thenQ_normal ?_ | refine W.skip ?_ | refine W.exit ?_ | refine thenQ_exit ?_ | refine inBlockQ_exit ?_ | refine inBlockQ_normal ?_
      | (apply SW.toC; refine SWcall.go True.intro ?_) | (apply SW.toOp; refine SWop.go True.intro ?_) | (apply SW.toCG; first | refine SWcall.yes True.intro ?_ | refine SWcall.no True.intro ?_) | (apply SW.toG; first | refine SWop.yes True.intro ?_ | refine SWop.no True.intro ?_)
    refine W.mid (sL [(0, .sl false (.u 64 a)), (1, .sl false (.u 64 b)), (6, .i j), (7, .u 64 (a.getD j 0)), (8, .u 64 (b.getD j 0))] [] 45) ?_ ?_
    · refine W.condZ G True.intro ?_ ?_
      all_goals intro hc
      · have hc' := of_decide_eq_true hc
        repeat' first
          | refine W.seq ?_ | (refine W.regS G ?_; dsimp only) | refine SW.nil ?_ | refine thenQ_normal ?_ | refine W.skip ?_ | refine W.exit ?_ | refine thenQ_exit ?_ | refine inBlockQ_exit ?_ | refine inBlockQ_normal ?_ | refine W.block ?_
          | (apply SW.toC; refine SWcall.go True.intro ?_) | (apply SW.toOp; refine SWop.go True.intro ?_) | (apply SW.toCG; first | refine SWcall.yes True.intro ?_ | refine SWcall.no True.intro ?_) | (apply SW.toG; first | refine SWop.yes True.intro ?_ | refine SWop.no True.intro ?_)
        refine Imp.le ?_
        exact sL_leZ True.intro
      · have hc' := of_decide_eq_false hc
        have e : b.getD j 0 = 0 := by rw [List.getD_eq_getElem?_getD, List.getElem?_eq_none (by omega)]; rfl
        repeat' first
          | refine W.seq ?_ | (refine W.regS G ?_; dsimp only) | refine SW.nil ?_ | refine thenQ_normal ?_ | refine W.skip ?_ | refine W.exit ?_ | refine thenQ_exit ?_ | refine inBlockQ_exit ?_ | refine inBlockQ_normal ?_ | refine W.block ?_
          | (apply SW.toC; refine SWcall.go True.intro ?_) | (apply SW.toOp; refine SWop.go True.intro ?_) | (apply SW.toCG; first | refine SWcall.yes True.intro ?_ | refine SWcall.no True.intro ?_) | (apply SW.toG; first | refine SWop.yes True.intro ?_ | refine SWop.no True.intro ?_)
        refine Imp.le ?_
        exact sL_leZ e
    generalize a.getD j 0 = x at hS ⊢
    generalize b.getD j 0 = y at hS ⊢
    repeat' first
      | refine W.seq ?_ | (refine W.regS G ?_; dsimp only) | refine SW.nil ?_ | refine thenQ_normal ?_ | refine W.skip ?_ | refine W.exit ?_ | refine thenQ_exit ?_ | refine inBlockQ_exit ?_ | refine inBlockQ_normal ?_ | refine W.block ?_
      | (apply SW.toC; refine SWcall.go True.intro ?_) | (apply SW.toOp; refine SWop.go True.intro ?_) | (apply SW.toCG; first | refine SWcall.yes True.intro ?_ | refine SWcall.no True.intro ?_) | (apply SW.toG; first | refine SWop.yes True.intro ?_ | refine SWop.no True.intro ?_)
    refine W.condZ G True.intro ?_ ?_
    all_goals intro hc
    · have hne : ¬ x = y := ne_of_nd hc
      rw [if_neg hne] at hS
      repeat' first
        | refine W.seq ?_ | (refine W.regS G ?_; dsimp only) | refine SW.nil ?_ | refine thenQ_normal ?_ | refine W.skip ?_ | refine W.exit ?_ | refine thenQ_exit ?_ | refine inBlockQ_exit ?_ | refine inBlockQ_normal ?_ | refine W.block ?_
        | (apply SW.toC; refine SWcall.go True.intro ?_) | (apply SW.toOp; refine SWop.go True.intro ?_) | (apply SW.toCG; first | refine SWcall.yes True.intro ?_ | refine SWcall.no True.intro ?_) | (apply SW.toG; first | refine SWop.yes True.intro ?_ | refine SWop.no True.intro ?_)
      refine W.ret ?_
      repeat' first
        | refine thenQ_ret ?_
        | refine inBlockQ_ret ?_
      refine fin1Z True.intro ?_
      rw [hR, hS]
      exact leV_refl
    · have he : x = y := eq_of_nd hc
      rw [if_pos he] at hS
      repeat' first
        | refine W.seq ?_ | (refine W.regS G ?_; dsimp only) | refine SW.nil ?_ | refine thenQ_normal ?_ | refine W.skip ?_ | refine W.exit ?_ | refine thenQ_exit ?_ | refine inBlockQ_exit ?_ | refine inBlockQ_normal ?_ | refine W.block ?_
        | (apply SW.toC; refine SWcall.go True.intro ?_) | (apply SW.toOp; refine SWop.go True.intro ?_) | (apply SW.toCG; first | refine SWcall.yes True.intro ?_ | refine SWcall.no True.intro ?_) | (apply SW.toG; first | refine SWop.yes True.intro ?_ | refine SWop.no True.intro ?_)
      refine ⟨⟨j, by omega, hR.trans hS⟩, Imp.le ?_, by show j < j + 1; omega⟩
      exact sL_leZ True.intro
  have ht' := of_decide_eq_false ht
  obtain rfl : k = 0 := by omega
  repeat' first
    | refine W.seq ?_ | (refine W.regS G ?_; dsimp only) | refine SW.nil ?_ | refine thenQ_normal ?_ | refine W.skip ?_ | refine W.exit ?_ | refine thenQ_exit ?_ | refine inBlockQ_exit ?_ | refine inBlockQ_normal ?_ | refine W.block ?_
    | (apply SW.toC; refine SWcall.go True.intro ?_) | (apply SW.toOp; refine SWop.go True.intro ?_) | (apply SW.toCG; first | refine SWcall.yes True.intro ?_ | refine SWcall.no True.intro ?_) | (apply SW.toG; first | refine SWop.yes True.intro ?_ | refine SWop.no True.intro ?_)
  refine W.ret ?_
  repeat' first
    | refine thenQ_ret ?_
    | refine inBlockQ_ret ?_
  refine fin1Z True.intro ?_
  rw [hR]
  exact leV_refl

/-! ### the document's sums, products, differences -/
theorem sumW (a b : List (BitVec 64)) : wordF (sumD (digF a 16) (digF b 16)) 16 = wOf (wv a + wv b) := by
  obtain ⟨h1, h2⟩ := sumD_val (digF_ok a 16) (digF_ok b 16)
  have h3 := wordF_eq h1
  rw [sumD_len, digF_len, digF_len] at h3
  rw [digF_len, digF_len, digF_val, digF_val] at h2
  rw [← h2]
  exact h3
theorem prodW (a b : List (BitVec 64)) : wordF (prodF (digF a 16) (digF b 16)) 16 = wOf (wv a * wv b) := by
  obtain ⟨h1, h2⟩ := prodF_val (digF_ok a 16) (digF_ok b 16)
  have h3 := wordF_eq h1
  rw [prodF_len, digF_len, digF_len] at h3
  rw [digF_len, digF_len, digF_val, digF_val] at h2
  rw [← h2]
  exact h3
noncomputable def rAddS : FSpec := { run := fun ins => match ins with
  | [.agg 4 (.u 64 a), .agg 4 (.u 64 b)] => some (.agg 4 (.u 64 (wOf (wv a + wv b))), [])
  | _ => none }
end Go.Vm.C01

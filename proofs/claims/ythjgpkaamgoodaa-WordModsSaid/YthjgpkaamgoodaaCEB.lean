/- What some functions of the program compute, walked through once. -/
import Derived.Test.YthjgpkaamgoodaaCEA
namespace Go.Vm.C01
open Go Go.Proofs
set_option linter.unusedVariables false
set_option linter.unusedSimpArgs false
set_option maxRecDepth 100000
set_option maxHeartbeats 8000000

theorem wvk_cut (w : List (BitVec 64)) (n : Nat) (hn : n ≤ w.length) : wvk (subL w 0 n) (subL w 0 n).length = wvk w n := by
  rw [sub_take, List.length_take, Nat.min_eq_left hn]
  exact wvk_take w n n (Nat.le_refl _)
theorem wide_val (a b : List (BitVec 64)) : wvk (wideF a b 4) 8 = wv a * wv b := wide_eq a b
noncomputable def mmS : FSpec := { run := fun ins => match ins with
  | [.agg 4 (.u 64 a), .agg 4 (.u 64 b), .agg 4 (.u 64 m)] => chk (a.length = 4 ∧ b.length = 4 ∧ m.length = 4) (some (.agg 4 (.u 64 (wOf (wmod (wv a * wv b) (wv m)))), []))
  | _ => none }
theorem MulMod_sound : SoundFn Try.prog glB 40 mmS.run := by
  have G := good_of (P := Try.prog) glB_ro (l := [(64, wideS), (78, divideS)]) (by simp only [List.forall_mem_cons]; exact ⟨wide_sound, divide_sound, by simp⟩)
  refine soundFn_of_W G Try.func40 (by decide) rfl (by decide) ?_
  intro ins ret outs h
  unfold mmS at h
  dsimp only at h
  split at h
  rotate_left
  · cases h
  rename_i a b m
  obtain ⟨hl, h'⟩ := chk_some h
  clear h
  cases h'
  obtain ⟨la, lb, lm⟩ := hl
  refine ⟨by show 3 ≤ 37; decide, fun w0 ext av => ?_⟩
  rw [Try.ntmps40, st0_eq]
  have hM : wmod (wv a * wv b) (wv m) = if wv m = 0 then 0 else (wv a * wv b) % wv m := rfl
  repeat' first
    | refine W.seq ?_ | (refine W.regS G ?_; dsimp only) | refine SW.nil ?_ | refine thenQ_normal ?_ | refine W.skip ?_ | refine W.exit ?_ | refine thenQ_exit ?_ | refine inBlockQ_exit ?_ | refine inBlockQ_normal ?_ | refine W.block ?_
    | (apply SW.toC; refine SWcall.go True.intro ?_) | (apply SW.toOp; refine SWop.go True.intro ?_) | (apply SW.toCG; first | refine SWcall.yes True.intro ?_ | refine SWcall.no True.intro ?_) | (apply SW.toG; first | refine SWop.yes True.intro ?_ | refine SWop.no True.intro ?_)
  refine W.condZ G True.intro ?_ ?_
  all_goals intro h1
  · have e : m = zeros 64 4 := yes_of h1
    have q1 : wOf (wmod (wv a * wv b) (wv m)) = m := by rw [hM, if_pos (by rw [e, wv_zero4]), e, zeros_wOf]
    rw [q1]
    repeat' first
      | refine W.seq ?_ | (refine W.regS G ?_; dsimp only) | refine SW.nil ?_ | refine thenQ_normal ?_ | refine W.skip ?_ | refine W.exit ?_ | refine thenQ_exit ?_ | refine inBlockQ_exit ?_ | refine inBlockQ_normal ?_ | refine W.block ?_
      | (apply SW.toC; refine SWcall.go True.intro ?_) | (apply SW.toOp; refine SWop.go True.intro ?_) | (apply SW.toCG; first | refine SWcall.yes True.intro ?_ | refine SWcall.no True.intro ?_) | (apply SW.toG; first | refine SWop.yes True.intro ?_ | refine SWop.no True.intro ?_)
    refine W.ret ?_
    repeat' first
      | refine thenQ_ret ?_
      | refine inBlockQ_ret ?_
    refine fin1Z True.intro ?_
    exact leV_refl
  have hb0 : ¬ wv m = 0 := fun c => no_of h1 (by
    refine wv_inj lm rfl ?_
    rw [c]
    exact (wvk_zeros 4 4).symm)
  have hbp : 0 < wv m := Nat.pos_of_ne_zero hb0
  rw [if_neg hb0] at hM
  rw [hM]
  have h8 := wide_val a b
  have l8 : (wideF a b 4).length = 8 := wideF_len a b 4
  obtain ⟨p, hp⟩ : ∃ p, wideF a b 4 = p := ⟨_, rfl⟩
  rw [hp] at h8 l8
  repeat' first
    | refine W.seq ?_ | (refine W.regS G ?_; dsimp only) | refine SW.nil ?_ | refine thenQ_normal ?_ | refine W.skip ?_ | refine W.exit ?_ | refine thenQ_exit ?_ | refine inBlockQ_exit ?_ | refine inBlockQ_normal ?_ | refine W.block ?_
    | (apply SW.toC; refine SWcall.go (And.intro wideS.eq_1 (And.intro hp l8)) ?_) | (apply SW.toOp; refine SWop.go (And.intro wideS.eq_1 (And.intro hp l8)) ?_) | (apply SW.toCG; first | refine SWcall.yes (And.intro wideS.eq_1 (And.intro hp l8)) ?_ | refine SWcall.no (And.intro wideS.eq_1 (And.intro hp l8)) ?_) | (apply SW.toG; first | refine SWop.yes (And.intro wideS.eq_1 (And.intro hp l8)) ?_ | refine SWop.no (And.intro wideS.eq_1 (And.intro hp l8)) ?_)
  refine W.loopI (ι := {n : Nat // n ≤ 8 ∧ wvk p n = wv a * wv b}) (fun n => sL [(3, .p 3 0 0 0), (4, .p 4 0 0 0), (5, .p 5 0 0 0), (6, .p 6 0 0 0), (7, .p 7 0 0 0), (8, .i n.1)] [(3, .agg 4 (.u 64 a)), (4, .agg 4 (.u 64 b)), (5, .agg 4 (.u 64 m)), (6, .agg 4 (.u 64 (zeros 64 4))), (7, .agg 8 (.u 64 p))] 37) (fun n => n.1) ⟨8, Nat.le_refl _, h8⟩ (Imp.le ?_) ?_
  · exact sL_leZ (And.intro wideS.eq_1 (And.intro hp l8))
  rintro ⟨n, hn, hI⟩
  have hcut := wvk_cut p n (by omega)
  have hlen : (subL p 0 n).length = n := by rw [sub_take, List.length_take, Nat.min_eq_left (by omega)]
  rw [hlen, hI] at hcut
  obtain ⟨q, hq⟩ : ∃ q, subL p 0 n = q := ⟨_, rfl⟩
  rw [hq] at hcut hlen
  have hqq := sub_whole hlen
  have fin : True := trivial
  by_cases hz : n = 0
  · subst hz
    have c0 : ((((0 : Nat) : Int)) > 0) = False := eq_false (by omega)
    repeat' first
      | refine W.seq ?_ | (refine W.regS G ?_; dsimp only) | refine SW.nil ?_ | refine thenQ_normal ?_ | refine W.skip ?_ | refine W.exit ?_ | refine thenQ_exit ?_ | refine inBlockQ_exit ?_ | refine inBlockQ_normal ?_ | refine W.block ?_
      | (apply SW.toC; refine SWcall.go (And.intro c0 l8) ?_) | (apply SW.toOp; refine SWop.go (And.intro c0 l8) ?_) | (apply SW.toCG; first | refine SWcall.yes (And.intro c0 l8) ?_ | refine SWcall.no (And.intro c0 l8) ?_) | (apply SW.toG; first | refine SWop.yes (And.intro c0 l8) ?_ | refine SWop.no (And.intro c0 l8) ?_)
    refine W.condZ G (And.intro c0 l8) ?_ ?_
    all_goals intro hcc
    · exact absurd hcc (by decide)
    clear hcc
    repeat' first
      | refine W.seq ?_ | (refine W.regS G ?_; dsimp only) | refine SW.nil ?_ | refine thenQ_normal ?_ | refine W.skip ?_ | refine W.exit ?_ | refine thenQ_exit ?_ | refine inBlockQ_exit ?_ | refine inBlockQ_normal ?_ | refine W.block ?_
      | (apply SW.toC; refine SWcall.go (And.intro divideS.eq_1 (And.intro hq (And.intro hlen (And.intro hcut (And.intro lm l8))))) ?_) | (apply SW.toOp; refine SWop.go (And.intro divideS.eq_1 (And.intro hq (And.intro hlen (And.intro hcut (And.intro lm l8))))) ?_) | (apply SW.toCG; first | refine SWcall.yes (And.intro divideS.eq_1 (And.intro hq (And.intro hlen (And.intro hcut (And.intro lm l8))))) ?_ | refine SWcall.no (And.intro divideS.eq_1 (And.intro hq (And.intro hlen (And.intro hcut (And.intro lm l8))))) ?_) | (apply SW.toG; first | refine SWop.yes (And.intro divideS.eq_1 (And.intro hq (And.intro hlen (And.intro hcut (And.intro lm l8))))) ?_ | refine SWop.no (And.intro divideS.eq_1 (And.intro hq (And.intro hlen (And.intro hcut (And.intro lm l8))))) ?_)
    refine W.drawS G [[], [0], [], [1, 0, 2], [3, 1, 0, 2], [4, 3, 1, 0, 2], [4, 3, 1, 0, 2], [], [5, 4, 3, 1, 0, 2, 7], [7, 6, 4, 3, 1, 0, 2, 8, 5]] hmix ?_
    dsimp only
    repeat' first
      | (apply DW.nil; (focus (decide +kernel)))
      | (apply DW.toC; refine DWcall.go (And.intro divideS.eq_1 (And.intro hq (And.intro hlen (And.intro hcut (And.intro lm l8))))) ?_) | (apply DW.toOp; refine DWop.go (And.intro divideS.eq_1 (And.intro hq (And.intro hlen (And.intro hcut (And.intro lm l8))))) ?_) | (apply DW.toCG; first | refine DWcall.yes (And.intro divideS.eq_1 (And.intro hq (And.intro hlen (And.intro hcut (And.intro lm l8))))) ?_ | refine DWcall.no (And.intro divideS.eq_1 (And.intro hq (And.intro hlen (And.intro hcut (And.intro lm l8))))) ?_) | (apply DW.toG; first | refine DWop.yes (And.intro divideS.eq_1 (And.intro hq (And.intro hlen (And.intro hcut (And.intro lm l8))))) ?_ | refine DWop.no (And.intro divideS.eq_1 (And.intro hq (And.intro hlen (And.intro hcut (And.intro lm l8))))) ?_)
    repeat' first
      | refine W.seq ?_ | (refine W.regS G ?_; dsimp only) | refine SW.nil ?_ | refine thenQ_normal ?_ | refine W.skip ?_ | refine W.exit ?_ | refine thenQ_exit ?_ | refine inBlockQ_exit ?_ | refine inBlockQ_normal ?_ | refine W.block ?_
      | (apply SW.toC; refine SWcall.go (And.intro divideS.eq_1 (And.intro hq (And.intro hlen (And.intro hcut (And.intro lm l8))))) ?_) | (apply SW.toOp; refine SWop.go (And.intro divideS.eq_1 (And.intro hq (And.intro hlen (And.intro hcut (And.intro lm l8))))) ?_) | (apply SW.toCG; first | refine SWcall.yes (And.intro divideS.eq_1 (And.intro hq (And.intro hlen (And.intro hcut (And.intro lm l8))))) ?_ | refine SWcall.no (And.intro divideS.eq_1 (And.intro hq (And.intro hlen (And.intro hcut (And.intro lm l8))))) ?_) | (apply SW.toG; first | refine SWop.yes (And.intro divideS.eq_1 (And.intro hq (And.intro hlen (And.intro hcut (And.intro lm l8))))) ?_ | refine SWop.no (And.intro divideS.eq_1 (And.intro hq (And.intro hlen (And.intro hcut (And.intro lm l8))))) ?_)
    refine W.ret ?_
    repeat' first
      | refine thenQ_ret ?_
      | refine inBlockQ_ret ?_
    refine fin1Z (And.intro divideS.eq_1 (And.intro hq (And.intro hlen (And.intro hcut (And.intro lm l8))))) ?_
    exact leV_refl
  · have ej : ((n : Int) - 1) = ((n - 1 : Nat) : Int) := by omega
    have c1 : (((n : Nat) : Int) > 0) = True := eq_true (by omega)
    have hS : wvk p n = wvk p (n - 1) + B64 ^ (n - 1) * (p.getD (n - 1) 0).toNat := by
      obtain ⟨j, rfl⟩ : ∃ j, n = j + 1 := ⟨n - 1, by omega⟩
      rfl
    repeat' first
      | refine W.seq ?_ | (refine W.regS G ?_; dsimp only) | refine SW.nil ?_ | refine thenQ_normal ?_ | refine W.skip ?_ | refine W.exit ?_ | refine thenQ_exit ?_ | refine inBlockQ_exit ?_ | refine inBlockQ_normal ?_ | refine W.block ?_
      | (apply SW.toC; refine SWcall.go (And.intro c1 (And.intro ej l8)) ?_) | (apply SW.toOp; refine SWop.go (And.intro c1 (And.intro ej l8)) ?_) | (apply SW.toCG; first | refine SWcall.yes (And.intro c1 (And.intro ej l8)) ?_ | refine SWcall.no (And.intro c1 (And.intro ej l8)) ?_) | (apply SW.toG; first | refine SWop.yes (And.intro c1 (And.intro ej l8)) ?_ | refine SWop.no (And.intro c1 (And.intro ej l8)) ?_)
    refine W.condZ G (And.intro c1 (And.intro ej l8)) ?_ ?_
    all_goals intro hc
    · have he : p.getD (n - 1) 0 = 0 := yes_of hc
      rw [he] at hS
      repeat' first
        | refine W.seq ?_ | (refine W.regS G ?_; dsimp only) | refine SW.nil ?_ | refine thenQ_normal ?_ | refine W.skip ?_ | refine W.exit ?_ | refine thenQ_exit ?_ | refine inBlockQ_exit ?_ | refine inBlockQ_normal ?_ | refine W.block ?_
        | (apply SW.toC; refine SWcall.go (And.intro c1 (And.intro ej l8)) ?_) | (apply SW.toOp; refine SWop.go (And.intro c1 (And.intro ej l8)) ?_) | (apply SW.toCG; first | refine SWcall.yes (And.intro c1 (And.intro ej l8)) ?_ | refine SWcall.no (And.intro c1 (And.intro ej l8)) ?_) | (apply SW.toG; first | refine SWop.yes (And.intro c1 (And.intro ej l8)) ?_ | refine SWop.no (And.intro c1 (And.intro ej l8)) ?_)
      refine ⟨⟨n - 1, by omega, hS.symm.trans hI⟩, Imp.le ?_, by show n - 1 < n; omega⟩
      exact sL_leZ (And.intro c1 (And.intro ej l8))
    · have s0 : n - 0 = n := rfl
      by_cases h8n : n = 8
      · subst h8n
        repeat' first
          | refine W.seq ?_ | (refine W.regS G ?_; dsimp only) | refine SW.nil ?_ | refine thenQ_normal ?_ | refine W.skip ?_ | refine W.exit ?_ | refine thenQ_exit ?_ | refine inBlockQ_exit ?_ | refine inBlockQ_normal ?_ | refine W.block ?_
          | (apply SW.toC; refine SWcall.go (And.intro divideS.eq_1 (And.intro hI (And.intro lm l8))) ?_) | (apply SW.toOp; refine SWop.go (And.intro divideS.eq_1 (And.intro hI (And.intro lm l8))) ?_) | (apply SW.toCG; first | refine SWcall.yes (And.intro divideS.eq_1 (And.intro hI (And.intro lm l8))) ?_ | refine SWcall.no (And.intro divideS.eq_1 (And.intro hI (And.intro lm l8))) ?_) | (apply SW.toG; first | refine SWop.yes (And.intro divideS.eq_1 (And.intro hI (And.intro lm l8))) ?_ | refine SWop.no (And.intro divideS.eq_1 (And.intro hI (And.intro lm l8))) ?_)
        refine W.drawS G [[], [0], [], [1, 0, 2], [3, 1, 0, 2], [4, 3, 1, 0, 2], [4, 3, 1, 0, 2], [], [5, 4, 3, 1, 0, 2, 7], [7, 6, 4, 3, 1, 0, 2, 8, 5]] hmix ?_
        dsimp only
        repeat' first
          | (apply DW.nil; (focus (decide +kernel)))
          | (apply DW.toC; refine DWcall.go (And.intro divideS.eq_1 (And.intro hI (And.intro lm l8))) ?_) | (apply DW.toOp; refine DWop.go (And.intro divideS.eq_1 (And.intro hI (And.intro lm l8))) ?_) | (apply DW.toCG; first | refine DWcall.yes (And.intro divideS.eq_1 (And.intro hI (And.intro lm l8))) ?_ | refine DWcall.no (And.intro divideS.eq_1 (And.intro hI (And.intro lm l8))) ?_) | (apply DW.toG; first | refine DWop.yes (And.intro divideS.eq_1 (And.intro hI (And.intro lm l8))) ?_ | refine DWop.no (And.intro divideS.eq_1 (And.intro hI (And.intro lm l8))) ?_)
        repeat' first
          | refine W.seq ?_ | (refine W.regS G ?_; dsimp only) | refine SW.nil ?_ | refine thenQ_normal ?_ | refine W.skip ?_ | refine W.exit ?_ | refine thenQ_exit ?_ | refine inBlockQ_exit ?_ | refine inBlockQ_normal ?_ | refine W.block ?_
          | (apply SW.toC; refine SWcall.go (And.intro divideS.eq_1 (And.intro hI (And.intro lm l8))) ?_) | (apply SW.toOp; refine SWop.go (And.intro divideS.eq_1 (And.intro hI (And.intro lm l8))) ?_) | (apply SW.toCG; first | refine SWcall.yes (And.intro divideS.eq_1 (And.intro hI (And.intro lm l8))) ?_ | refine SWcall.no (And.intro divideS.eq_1 (And.intro hI (And.intro lm l8))) ?_) | (apply SW.toG; first | refine SWop.yes (And.intro divideS.eq_1 (And.intro hI (And.intro lm l8))) ?_ | refine SWop.no (And.intro divideS.eq_1 (And.intro hI (And.intro lm l8))) ?_)
        refine W.ret ?_
        repeat' first
          | refine thenQ_ret ?_
          | refine inBlockQ_ret ?_
        refine fin1Z (And.intro divideS.eq_1 (And.intro hI (And.intro lm l8))) ?_
        exact leV_refl
      · have n8 : (n = 8) = False := eq_false h8n
        repeat' first
          | refine W.seq ?_ | (refine W.regS G ?_; dsimp only) | refine SW.nil ?_ | refine thenQ_normal ?_ | refine W.skip ?_ | refine W.exit ?_ | refine thenQ_exit ?_ | refine inBlockQ_exit ?_ | refine inBlockQ_normal ?_ | refine W.block ?_
          | (apply SW.toC; refine SWcall.go (And.intro divideS.eq_1 (And.intro s0 (And.intro n8 (And.intro hq (And.intro hlen (And.intro hcut (And.intro lm l8))))))) ?_) | (apply SW.toOp; refine SWop.go (And.intro divideS.eq_1 (And.intro s0 (And.intro n8 (And.intro hq (And.intro hlen (And.intro hcut (And.intro lm l8))))))) ?_) | (apply SW.toCG; first | refine SWcall.yes (And.intro divideS.eq_1 (And.intro s0 (And.intro n8 (And.intro hq (And.intro hlen (And.intro hcut (And.intro lm l8))))))) ?_ | refine SWcall.no (And.intro divideS.eq_1 (And.intro s0 (And.intro n8 (And.intro hq (And.intro hlen (And.intro hcut (And.intro lm l8))))))) ?_) | (apply SW.toG; first | refine SWop.yes (And.intro divideS.eq_1 (And.intro s0 (And.intro n8 (And.intro hq (And.intro hlen (And.intro hcut (And.intro lm l8))))))) ?_ | refine SWop.no (And.intro divideS.eq_1 (And.intro s0 (And.intro n8 (And.intro hq (And.intro hlen (And.intro hcut (And.intro lm l8))))))) ?_)
        refine W.drawS G [[], [0], [], [1, 0, 2], [3, 1, 0, 2], [4, 3, 1, 0, 2], [4, 3, 1, 0, 2], [], [5, 4, 3, 1, 0, 2, 7], [7, 6, 4, 3, 1, 0, 2, 8, 5]] hmix ?_
        dsimp only
        repeat' first
          | (apply DW.nil; (focus (decide +kernel)))
          | (apply DW.toC; refine DWcall.go (And.intro divideS.eq_1 (And.intro s0 (And.intro n8 (And.intro hq (And.intro hlen (And.intro hcut (And.intro lm l8))))))) ?_) | (apply DW.toOp; refine DWop.go (And.intro divideS.eq_1 (And.intro s0 (And.intro n8 (And.intro hq (And.intro hlen (And.intro hcut (And.intro lm l8))))))) ?_) | (apply DW.toCG; first | refine DWcall.yes (And.intro divideS.eq_1 (And.intro s0 (And.intro n8 (And.intro hq (And.intro hlen (And.intro hcut (And.intro lm l8))))))) ?_ | refine DWcall.no (And.intro divideS.eq_1 (And.intro s0 (And.intro n8 (And.intro hq (And.intro hlen (And.intro hcut (And.intro lm l8))))))) ?_) | (apply DW.toG; first | refine DWop.yes (And.intro divideS.eq_1 (And.intro s0 (And.intro n8 (And.intro hq (And.intro hlen (And.intro hcut (And.intro lm l8))))))) ?_ | refine DWop.no (And.intro divideS.eq_1 (And.intro s0 (And.intro n8 (And.intro hq (And.intro hlen (And.intro hcut (And.intro lm l8))))))) ?_)
        repeat' first
          | refine W.seq ?_ | (refine W.regS G ?_; dsimp only) | refine SW.nil ?_ | refine thenQ_normal ?_ | refine W.skip ?_ | refine W.exit ?_ | refine thenQ_exit ?_ | refine inBlockQ_exit ?_ | refine inBlockQ_normal ?_ | refine W.block ?_
          | (apply SW.toC; refine SWcall.go (And.intro divideS.eq_1 (And.intro s0 (And.intro n8 (And.intro hq (And.intro hlen (And.intro hcut (And.intro lm l8))))))) ?_) | (apply SW.toOp; refine SWop.go (And.intro divideS.eq_1 (And.intro s0 (And.intro n8 (And.intro hq (And.intro hlen (And.intro hcut (And.intro lm l8))))))) ?_) | (apply SW.toCG; first | refine SWcall.yes (And.intro divideS.eq_1 (And.intro s0 (And.intro n8 (And.intro hq (And.intro hlen (And.intro hcut (And.intro lm l8))))))) ?_ | refine SWcall.no (And.intro divideS.eq_1 (And.intro s0 (And.intro n8 (And.intro hq (And.intro hlen (And.intro hcut (And.intro lm l8))))))) ?_) | (apply SW.toG; first | refine SWop.yes (And.intro divideS.eq_1 (And.intro s0 (And.intro n8 (And.intro hq (And.intro hlen (And.intro hcut (And.intro lm l8))))))) ?_ | refine SWop.no (And.intro divideS.eq_1 (And.intro s0 (And.intro n8 (And.intro hq (And.intro hlen (And.intro hcut (And.intro lm l8))))))) ?_)
        refine W.ret ?_
        repeat' first
          | refine thenQ_ret ?_
          | refine inBlockQ_ret ?_
        refine fin1Z (And.intro divideS.eq_1 (And.intro s0 (And.intro n8 (And.intro hq (And.intro hlen (And.intro hcut (And.intro lm l8))))))) ?_
        exact leV_refl
end Go.Vm.C01

/- What some functions of the program compute, walked through once. -/
import Derived.Test.YtpgfoccjobgniaaDoorCE
namespace Go.Vm.C04
open Go Go.Proofs
set_option linter.unusedVariables false
set_option linter.unusedSimpArgs false
set_option maxRecDepth 100000
set_option maxHeartbeats 8000000
attribute [go_sem] bys?

/-! ### parts -/
noncomputable def p0 : Dg := (begunB, zeros 8 64, 0)
theorem p0_ok : okP p0 := ⟨rfl, rfl, by show 0 < 64; decide⟩
noncomputable def wrP (xs : List Bytes) (k : Nat) : Dg × BitVec 64 := itN (fun j s => (puts (xs.getD j []) (xs.getD j []).length s.1, s.2 + BitVec.ofInt 64 ((xs.getD j []).length : Int))) k (p0, 0#64)
theorem wrP_ok (xs : List Bytes) (k : Nat) : okP (wrP xs k).1 := itN_inv (p := fun (s : Dg × BitVec 64) => okP s.1) (fun j s h => (puts_ok _ _ h).1) k p0_ok
noncomputable def sumF (xs : List Bytes) : List (BitVec 8) := hashF (wrP xs xs.length).1 (wrP xs xs.length).2
theorem outF_len (h : List (BitVec 32)) (k : Nat) : (outF h k).length = 32 := itN_inv (p := fun (t : List (BitVec 8)) => t.length = 32) (fun _ _ hh => by simpa using hh) k rfl
theorem hashF_len (p : Dg) (n : BitVec 64) : (hashF p n).length = 32 := outF_len _ _
theorem sumF_len (xs : List Bytes) : (sumF xs).length = 32 := hashF_len _ _
noncomputable def sumS : FSpec := { run := fun ins => match ins with
  | [.sl false (.b false xs)] => chk (xs.length ≤ 1000 ∧ ∀ j, j < xs.length → (xs.getD j []).length ≤ 140737488355328) (some (.agg 32 (.u 8 (sumF xs)), []))
  | _ => none }
theorem sum_sound : SoundFn Tryd.prog glB 16 sumS.run := by
  have G := good_of (P := Tryd.prog) glB_ro (l := [(17, writeS), (18, hashS)]) (by simp only [List.forall_mem_cons]; exact ⟨write_sound, hash_sound, by simp⟩)
  refine soundFn_of_W G Tryd.func16 (by decide) rfl (by decide) ?_
  intro ins ret outs h
  unfold sumS at h
  dsimp only at h
  split at h
  rotate_left
  · cases h
  rename_i xs
  obtain ⟨hl, h'⟩ := chk_some h
  clear h
  cases h'
  refine ⟨by show 1 ≤ 19; decide, fun w0 ext av => ?_⟩
  rw [Tryd.ntmps16, st0_eq]
  have hl1 := hl.1
  have h0 : wrP xs 0 = ((begunB, zeros 8 64, 0), 0#64) := rfl
  repeat' first
    | refine W.seq ?_ | (refine W.regS G ?_; dsimp only) | refine SW.nil ?_ | refine thenQ_normal ?_ | refine W.skip ?_ | refine W.exit ?_ | refine thenQ_exit ?_ | refine inBlockQ_exit ?_ | refine inBlockQ_normal ?_
    | (apply SW.toC; refine SWcall.go (And.intro glB0 begunB_len) ?_) | (apply SW.toOp; refine SWop.go (And.intro glB0 begunB_len) ?_) | (apply SW.toCG; first | refine SWcall.yes (And.intro glB0 begunB_len) ?_ | refine SWcall.no (And.intro glB0 begunB_len) ?_) | (apply SW.toG; first | refine SWop.yes (And.intro glB0 begunB_len) ?_ | refine SWop.no (And.intro glB0 begunB_len) ?_)
  refine W.mid (sL [(2, .p 2 0 0 0), (3, .p 3 0 0 0)] [(2, .agg 32 (.u 8 (zeros 8 32))), (3, .st [.agg 8 (.u 32 (wrP xs xs.length).1.1), .agg 64 (.u 8 (wrP xs xs.length).1.2.1), .i ((wrP xs xs.length).1.2.2 : Int), .u 64 (wrP xs xs.length).2])] 19) ?_ ?_
  · repeat' first
      | refine W.seq ?_ | (refine W.regS G ?_; dsimp only) | refine SW.nil ?_ | refine thenQ_normal ?_ | refine W.skip ?_ | refine W.exit ?_ | refine thenQ_exit ?_ | refine inBlockQ_exit ?_ | refine inBlockQ_normal ?_ | refine W.block ?_
      | (apply SW.toC; refine SWcall.go (And.intro glB0 begunB_len) ?_) | (apply SW.toOp; refine SWop.go (And.intro glB0 begunB_len) ?_) | (apply SW.toCG; first | refine SWcall.yes (And.intro glB0 begunB_len) ?_ | refine SWcall.no (And.intro glB0 begunB_len) ?_) | (apply SW.toG; first | refine SWop.yes (And.intro glB0 begunB_len) ?_ | refine SWop.no (And.intro glB0 begunB_len) ?_)
    refine W.loopI (ι := {j : Nat // j ≤ xs.length}) (fun j => sL [(2, .p 2 0 0 0), (3, .p 3 0 0 0), (8, .sl false (.b false xs)), (9, .i xs.length), (10, .i j.1)] [(2, .agg 32 (.u 8 (zeros 8 32))), (3, .st [.agg 8 (.u 32 (wrP xs j.1).1.1), .agg 64 (.u 8 (wrP xs j.1).1.2.1), .i ((wrP xs j.1).1.2.2 : Int), .u 64 (wrP xs j.1).2])] 19) (fun j => xs.length - j.1) ⟨0, Nat.zero_le _⟩ (Imp.le ?_) ?_
    · exact sL_leZ (And.intro h0 (And.intro glB0 begunB_len))
    rintro ⟨j, hj⟩
    have e : wrP xs (j + 1) = (puts (xs.getD j []) (xs.getD j []).length (wrP xs j).1, (wrP xs j).2 + BitVec.ofInt 64 ((xs.getD j []).length : Int)) := itN_succ _ _ _
    have hend : j = xs.length → wrP xs xs.length = wrP xs j := by rintro rfl; rfl
    have ok := wrP_ok xs j
    generalize wrP xs j = s at e hend ok ⊢
    obtain ⟨⟨h1, b1, m1⟩, n1⟩ := s
    obtain ⟨g1, g2, g3⟩ := ok
    dsimp only at e hend g1 g2 g3 ⊢
    repeat' first
      | refine W.seq ?_ | (refine W.regS G ?_; dsimp only) | refine SW.nil ?_ | refine thenQ_normal ?_ | refine W.skip ?_ | refine W.exit ?_ | refine thenQ_exit ?_ | refine inBlockQ_exit ?_ | refine inBlockQ_normal ?_ | refine W.block ?_
      | (apply SW.toC; refine SWcall.go True.intro ?_) | (apply SW.toOp; refine SWop.go True.intro ?_) | (apply SW.toCG; first | refine SWcall.yes True.intro ?_ | refine SWcall.no True.intro ?_) | (apply SW.toG; first | refine SWop.yes True.intro ?_ | refine SWop.no True.intro ?_)
    refine W.condZ G True.intro ?_ ?_
    all_goals intro ht
    · have ht' := of_decide_eq_true ht
      have hx := hl.2 j (by omega)
      generalize hy : xs.getD j [] = y at e hx
      repeat' first
        | refine W.seq ?_ | (refine W.regS G ?_; dsimp only) | refine SW.nil ?_ | refine thenQ_normal ?_ | refine W.skip ?_ | refine W.exit ?_ | refine thenQ_exit ?_ | refine inBlockQ_exit ?_ | refine inBlockQ_normal ?_ | refine W.block ?_
        | (apply SW.toC; refine SWcall.go (And.intro writeS.eq_1 (And.intro g1 (And.intro g2 hy))) ?_) | (apply SW.toOp; refine SWop.go (And.intro writeS.eq_1 (And.intro g1 (And.intro g2 hy))) ?_) | (apply SW.toCG; first | refine SWcall.yes (And.intro writeS.eq_1 (And.intro g1 (And.intro g2 hy))) ?_ | refine SWcall.no (And.intro writeS.eq_1 (And.intro g1 (And.intro g2 hy))) ?_) | (apply SW.toG; first | refine SWop.yes (And.intro writeS.eq_1 (And.intro g1 (And.intro g2 hy))) ?_ | refine SWop.no (And.intro writeS.eq_1 (And.intro g1 (And.intro g2 hy))) ?_)
      refine ⟨⟨j + 1, by omega⟩, Imp.le ?_, by show _ - (j + 1) < _ - j; omega⟩
      exact sL_leZ (And.intro e (And.intro writeS.eq_1 (And.intro g1 (And.intro g2 hy))))
    have ht' := of_decide_eq_false ht
    obtain rfl : j = xs.length := by omega
    have hh := hend rfl
    repeat' first
      | refine W.seq ?_ | (refine W.regS G ?_; dsimp only) | refine SW.nil ?_ | refine thenQ_normal ?_ | refine W.skip ?_ | refine W.exit ?_ | refine thenQ_exit ?_ | refine inBlockQ_exit ?_ | refine inBlockQ_normal ?_ | refine W.block ?_
      | (apply SW.toC; refine SWcall.go True.intro ?_) | (apply SW.toOp; refine SWop.go True.intro ?_) | (apply SW.toCG; first | refine SWcall.yes True.intro ?_ | refine SWcall.no True.intro ?_) | (apply SW.toG; first | refine SWop.yes True.intro ?_ | refine SWop.no True.intro ?_)
    refine Imp.le ?_
    exact sL_leZ hh
  have hF : sumF xs = hashF (wrP xs xs.length).1 (wrP xs xs.length).2 := rfl
  have ok := wrP_ok xs xs.length
  generalize wrP xs xs.length = s at hF ok ⊢
  obtain ⟨⟨h1, b1, m1⟩, n1⟩ := s
  obtain ⟨g1, g2, g3⟩ := ok
  dsimp only at hF g1 g2 g3 ⊢
  repeat' first
    | refine W.seq ?_ | (refine W.regS G ?_; dsimp only) | refine SW.nil ?_ | refine thenQ_normal ?_ | refine W.skip ?_ | refine W.exit ?_ | refine thenQ_exit ?_ | refine inBlockQ_exit ?_ | refine inBlockQ_normal ?_ | refine W.block ?_
    | (apply SW.toC; refine SWcall.go (And.intro hashS.eq_1 (And.intro g1 g2)) ?_) | (apply SW.toOp; refine SWop.go (And.intro hashS.eq_1 (And.intro g1 g2)) ?_) | (apply SW.toCG; first | refine SWcall.yes (And.intro hashS.eq_1 (And.intro g1 g2)) ?_ | refine SWcall.no (And.intro hashS.eq_1 (And.intro g1 g2)) ?_) | (apply SW.toG; first | refine SWop.yes (And.intro hashS.eq_1 (And.intro g1 g2)) ?_ | refine SWop.no (And.intro hashS.eq_1 (And.intro g1 g2)) ?_)
  refine W.ret ?_
  repeat' first
    | refine thenQ_ret ?_
    | refine inBlockQ_ret ?_
  refine fin1Z (And.intro hashS.eq_1 (And.intro g1 g2)) ?_
  rw [hF]
  exact leV_refl
noncomputable def sum1S : FSpec := { run := fun ins => match ins with
  | [.sl false (.u 8 b)] => chk (b.length ≤ 140737488355328) (some (.agg 32 (.u 8 (sumF [b])), []))
  | _ => none }
theorem one_le {b : Bytes} (h : b.length ≤ 140737488355328) : ∀ j, j < [b].length → ([b].getD j []).length ≤ 140737488355328 := by
  intro j hj
  obtain rfl : j = 0 := by simp at hj; exact hj
  exact h
theorem two_le {a b : Bytes} (h : a.length ≤ 140737488355328) (h2 : b.length ≤ 140737488355328) : ∀ j, j < [a, b].length → ([a, b].getD j []).length ≤ 140737488355328 := by
  intro j hj
  match j, hj with
  | 0, _ => exact h
  | 1, _ => exact h2
  | j + 2, hj =>
    have : j + 2 < 2 := hj
    omega
theorem sum1_sound : SoundFn Tryd.prog glB 8 sum1S.run := by
  have G := good_of (P := Tryd.prog) glB_ro (l := [(16, sumS)]) (by simp only [List.forall_mem_cons]; exact ⟨sum_sound, by simp⟩)
  refine soundFn_of_W G Tryd.func8 (by decide) rfl (by decide) ?_
  intro ins ret outs h
  unfold sum1S at h
  dsimp only at h
  split at h
  rotate_left
  · cases h
  rename_i b
  obtain ⟨hl, h'⟩ := chk_some h
  clear h
  cases h'
  have h1 : sumS.run [.sl false (.b false [b])] = some (.agg 32 (.u 8 (sumF [b])), []) := chk_ok ⟨by simp, one_le hl⟩
  refine ⟨by show 1 ≤ 6; decide, fun w0 ext av => ?_⟩
  rw [Tryd.ntmps8, st0_eq]
  repeat' first
    | refine W.seq ?_ | (refine W.regS G ?_; dsimp only) | refine SW.nil ?_ | refine thenQ_normal ?_ | refine W.skip ?_ | refine W.exit ?_ | refine thenQ_exit ?_ | refine inBlockQ_exit ?_ | refine inBlockQ_normal ?_ | refine W.block ?_
    | (apply SW.toC; refine SWcall.go h1 ?_) | (apply SW.toOp; refine SWop.go h1 ?_) | (apply SW.toCG; first | refine SWcall.yes h1 ?_ | refine SWcall.no h1 ?_) | (apply SW.toG; first | refine SWop.yes h1 ?_ | refine SWop.no h1 ?_)
  refine W.ret ?_
  repeat' first
    | refine thenQ_ret ?_
    | refine inBlockQ_ret ?_
  refine fin1Z h1 ?_
  exact leV_refl
noncomputable def newS : FSpec := { run := fun ins => match ins with
  | [] => some (.ref 0 0 (.st [.agg 8 (.u 32 begunB), .agg 64 (.u 8 (zeros 8 64)), .i 0, .u 64 0]), [])
  | _ => none }
theorem new_sound : SoundFn Tryd.prog glB 7 newS.run := by
  have G := good_of (P := Tryd.prog) glB_ro (l := []) (by simp)
  refine soundFn_of_W G Tryd.func7 (by decide) rfl (by decide) ?_
  intro ins ret outs h
  unfold newS at h
  dsimp only at h
  split at h
  rotate_left
  · cases h
  cases h
  refine ⟨by show 0 ≤ 4; decide, fun w0 ext av => ?_⟩
  rw [Tryd.ntmps7, st0_eq]
  repeat' first
    | refine W.seq ?_ | (refine W.regS G ?_; dsimp only) | refine SW.nil ?_ | refine thenQ_normal ?_ | refine W.skip ?_ | refine W.exit ?_ | refine thenQ_exit ?_ | refine inBlockQ_exit ?_ | refine inBlockQ_normal ?_ | refine W.block ?_
    | (apply SW.toC; refine SWcall.go (And.intro glB0 begunB_len) ?_) | (apply SW.toOp; refine SWop.go (And.intro glB0 begunB_len) ?_) | (apply SW.toCG; first | refine SWcall.yes (And.intro glB0 begunB_len) ?_ | refine SWcall.no (And.intro glB0 begunB_len) ?_) | (apply SW.toG; first | refine SWop.yes (And.intro glB0 begunB_len) ?_ | refine SWop.no (And.intro glB0 begunB_len) ?_)
  refine W.ret ?_
  repeat' first
    | refine thenQ_ret ?_
    | refine inBlockQ_ret ?_
  refine fin1Z (And.intro glB0 begunB_len) ?_
  exact leV_refl
theorem mwrite_sound : SoundFn Tryd.prog glB 9 writeS.run := by
  have G := good_of (P := Tryd.prog) glB_ro (l := [(17, writeS)]) (by simp only [List.forall_mem_cons]; exact ⟨write_sound, by simp⟩)
  refine soundFn_of_W G Tryd.func9 (by decide) rfl (by decide) ?_
  intro ins ret outs h
  unfold writeS at h
  dsimp only at h
  split at h
  rotate_left
  · cases h
  rename_i h0 b m n x
  obtain ⟨hl, h'⟩ := chk_some h
  clear h
  cases h'
  refine ⟨by show 2 ≤ 7; decide, fun w0 ext av => ?_⟩
  rw [Tryd.ntmps9, st0_eq]
  repeat' first
    | refine W.seq ?_ | (refine W.regS G ?_; dsimp only) | refine SW.nil ?_ | refine thenQ_normal ?_ | refine W.skip ?_ | refine W.exit ?_ | refine thenQ_exit ?_ | refine inBlockQ_exit ?_ | refine inBlockQ_normal ?_ | refine W.block ?_
    | (apply SW.toC; refine SWcall.go (And.intro writeS.eq_1 hl) ?_) | (apply SW.toOp; refine SWop.go (And.intro writeS.eq_1 hl) ?_) | (apply SW.toCG; first | refine SWcall.yes (And.intro writeS.eq_1 hl) ?_ | refine SWcall.no (And.intro writeS.eq_1 hl) ?_) | (apply SW.toG; first | refine SWop.yes (And.intro writeS.eq_1 hl) ?_ | refine SWop.no (And.intro writeS.eq_1 hl) ?_)
  exact fin0Z (And.intro writeS.eq_1 hl)
noncomputable def msumS : FSpec := { run := fun ins => match ins with
  | [.ref 0 0 (.st [.agg 8 (.u 32 h), .agg 64 (.u 8 b), .i m, .u 64 n])] => chk (h.length = 8 ∧ b.length = 64 ∧ 0 ≤ m ∧ m < 64) (some (.agg 32 (.u 8 (hashF (h, b, m.toNat) n)), [.st [.agg 8 (.u 32 h), .agg 64 (.u 8 b), .i m, .u 64 n]]))
  | _ => none }
theorem msum_sound : SoundFn Tryd.prog glB 10 msumS.run := by
  have G := good_of (P := Tryd.prog) glB_ro (l := [(18, hashS)]) (by simp only [List.forall_mem_cons]; exact ⟨hash_sound, by simp⟩)
  refine soundFn_of_W G Tryd.func10 (by decide) rfl (by decide) ?_
  intro ins ret outs h
  unfold msumS at h
  dsimp only at h
  split at h
  rotate_left
  · cases h
  rename_i h0 b m n
  obtain ⟨hl, h'⟩ := chk_some h
  clear h
  cases h'
  refine ⟨by show 1 ≤ 7; decide, fun w0 ext av => ?_⟩
  rw [Tryd.ntmps10, st0_eq]
  repeat' first
    | refine W.seq ?_ | (refine W.regS G ?_; dsimp only) | refine SW.nil ?_ | refine thenQ_normal ?_ | refine W.skip ?_ | refine W.exit ?_ | refine thenQ_exit ?_ | refine inBlockQ_exit ?_ | refine inBlockQ_normal ?_ | refine W.block ?_
    | (apply SW.toC; refine SWcall.go (And.intro hashS.eq_1 hl) ?_) | (apply SW.toOp; refine SWop.go (And.intro hashS.eq_1 hl) ?_) | (apply SW.toCG; first | refine SWcall.yes (And.intro hashS.eq_1 hl) ?_ | refine SWcall.no (And.intro hashS.eq_1 hl) ?_) | (apply SW.toG; first | refine SWop.yes (And.intro hashS.eq_1 hl) ?_ | refine SWop.no (And.intro hashS.eq_1 hl) ?_)
  refine W.ret ?_
  repeat' first
    | refine thenQ_ret ?_
    | refine inBlockQ_ret ?_
  refine fin1Z (And.intro hashS.eq_1 hl) ?_
  exact leV_refl
noncomputable def liveS : FSpec := { run := fun ins => match ins with
  | [] => some (.b true, [])
  | _ => none }
theorem live_h : (sumF [[97#8, 98#8, 99#8]]).getD 0 0 = 186#8 ∧ (sumF [[97#8, 98#8, 99#8]]).getD 1 0 = 120#8 ∧ (sumF [[97#8, 98#8, 99#8]]).getD 31 0 = 173#8 := by decide +kernel
theorem lives_sound : SoundFn Tryd.prog glB 11 liveS.run := by
  have G := good_of (P := Tryd.prog) glB_ro (l := [(8, sum1S)]) (by simp only [List.forall_mem_cons]; exact ⟨sum1_sound, by simp⟩)
  refine soundFn_of_W G Tryd.func11 (by decide) rfl (by decide) ?_
  intro ins ret outs h
  unfold liveS at h
  dsimp only at h
  split at h
  rotate_left
  · cases h
  cases h
  refine ⟨by show 0 ≤ 18; decide, fun w0 ext av => ?_⟩
  rw [Tryd.ntmps11, st0_eq]
  have h1 := live_h
  generalize hs0 : sumF [[97#8, 98#8, 99#8]] = T at h1
  repeat' first
    | refine W.seq ?_ | (refine W.regS G ?_; dsimp only) | refine SW.nil ?_ | refine thenQ_normal ?_ | refine W.skip ?_ | refine W.exit ?_ | refine thenQ_exit ?_ | refine inBlockQ_exit ?_ | refine inBlockQ_normal ?_ | refine W.block ?_
    | (apply SW.toC; refine SWcall.go (And.intro sum1S.eq_1 (And.intro hs0 h1)) ?_) | (apply SW.toOp; refine SWop.go (And.intro sum1S.eq_1 (And.intro hs0 h1)) ?_) | (apply SW.toCG; first | refine SWcall.yes (And.intro sum1S.eq_1 (And.intro hs0 h1)) ?_ | refine SWcall.no (And.intro sum1S.eq_1 (And.intro hs0 h1)) ?_) | (apply SW.toG; first | refine SWop.yes (And.intro sum1S.eq_1 (And.intro hs0 h1)) ?_ | refine SWop.no (And.intro sum1S.eq_1 (And.intro hs0 h1)) ?_)
  refine W.ret ?_
  repeat' first
    | refine thenQ_ret ?_
    | refine inBlockQ_ret ?_
  refine fin1Z (And.intro sum1S.eq_1 (And.intro hs0 h1)) ?_
  exact leV_refl
end Go.Vm.C04

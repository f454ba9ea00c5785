/- What some functions of the program compute, walked through once. -/
import Derived.Test.YthjgpkaamgoodaaCBB
namespace Go.Vm.C01
open Go Go.Proofs
set_option linter.unusedVariables false
set_option linter.unusedSimpArgs false
set_option maxRecDepth 100000
set_option maxHeartbeats 8000000

theorem getD_set_self {l : List (BitVec 64)} {k : Nat} {v : BitVec 64} (h : k < l.length) : (l.set k v).getD k 0 = v := by
  simp [List.getD_eq_getElem?_getD, List.getElem?_set, h]
noncomputable def leftS : FSpec := { run := fun ins => match ins with
  | [.agg 4 (.u 64 a), .i n] => chk (0 ≤ n ∧ n ≤ 256) (some (.agg 4 (.u 64 (wB (shlB a n.toNat))), []))
  | _ => none }
theorem left_sound : SoundFn Try.prog glB 62 leftS.run := by
  have G := good_of (P := Try.prog) glB_ro (l := []) (by simp)
  refine soundFn_of_W G Try.func62 (by decide) rfl (by decide) ?_
  intro ins ret outs h
  unfold leftS at h
  dsimp only at h
  split at h
  rotate_left
  · cases h
  rename_i a n
  obtain ⟨hl, h'⟩ := chk_some h
  clear h
  cases h'
  obtain ⟨n, rfl⟩ := Int.eq_ofNat_of_zero_le hl.1
  have hn : n ≤ 256 := by omega
  clear hl
  refine ⟨by show 2 ≤ 45; decide, fun w0 ext av => ?_⟩
  rw [Try.ntmps62, st0_eq]
  have eT : ((n : Int)).toNat = n := by omega
  rw [eT]
  have e1 : ((n : Int) / 64) = ((n / 64 : Nat) : Int) := by omega
  have e2 : ((n : Int) % 64) = ((n % 64 : Nat) : Int) := by omega
  repeat' first
    | refine W.seq ?_ | (refine W.regS G ?_; dsimp only) | refine SW.nil ?_ | refine thenQ_normal ?_ | refine W.skip ?_ | refine W.exit ?_ | refine thenQ_exit ?_ | refine inBlockQ_exit ?_ | refine inBlockQ_normal ?_ | refine W.block ?_
    | (apply SW.toC; refine SWcall.go (And.intro e1 e2) ?_) | (apply SW.toOp; refine SWop.go (And.intro e1 e2) ?_) | (apply SW.toCG; first | refine SWcall.yes (And.intro e1 e2) ?_ | refine SWcall.no (And.intro e1 e2) ?_) | (apply SW.toG; first | refine SWop.yes (And.intro e1 e2) ?_ | refine SWop.no (And.intro e1 e2) ?_)
  refine W.loopI (ι := {p : Nat × List (BitVec 64) // n / 64 ≤ p.1 ∧ p.1 ≤ 4 ∧ p.2.length = 4 ∧ ∀ b, b < 256 → bitAt p.2 b = if b < 64 * p.1 then shlB a n b else false}) (fun p => sL [(1, .i (n : Int)), (2, .p 2 0 0 0), (4, .p 4 0 0 0), (5, .p 5 0 0 0), (6, .i (p.1.1 : Int))] [(2, .agg 4 (.u 64 a)), (4, .agg 4 (.u 64 (zeros 64 4))), (5, .agg 4 (.u 64 p.1.2))] 45) (fun p => 4 - p.1.1) ⟨(n / 64, zeros 64 4), Nat.le_refl _, by show n / 64 ≤ 4; omega, rfl, ?_⟩ (Imp.le ?_) ?_
  · intro b hb
    rw [bitAt_zeros]
    dsimp only
    by_cases h : b < 64 * (n / 64)
    · rw [if_pos h]
      unfold shlB
      have : ¬ n ≤ b := by omega
      simp [this]
    · rw [if_neg h]
  · exact sL_leZ (And.intro e1 e2)
  rintro ⟨⟨i, l⟩, hq, hi, ll, hI⟩
  dsimp only at hq hi ll hI
  repeat' first
    | refine W.seq ?_ | (refine W.regS G ?_; dsimp only) | refine SW.nil ?_ | refine thenQ_normal ?_ | refine W.skip ?_ | refine W.exit ?_ | refine thenQ_exit ?_ | refine inBlockQ_exit ?_ | refine inBlockQ_normal ?_ | refine W.block ?_
    | (apply SW.toC; refine SWcall.go ll ?_) | (apply SW.toOp; refine SWop.go ll ?_) | (apply SW.toCG; first | refine SWcall.yes ll ?_ | refine SWcall.no ll ?_) | (apply SW.toG; first | refine SWop.yes ll ?_ | refine SWop.no ll ?_)
  refine W.condZ G ll ?_ ?_
  all_goals intro ht
  · have ht' := of_decide_eq_true ht
    have hi4 : i < 4 := by omega
    have ed : ((i : Int) - ((n / 64 : Nat) : Int)) = ((i - n / 64 : Nat) : Int) := by omega
    have gs : ∀ v : BitVec 64, (l.set i v).getD i 0 = v := fun v => getD_set_self (by omega)
    have ss : ∀ v w : BitVec 64, (l.set i v).set i w = l.set i w := fun v w => List.set_set ..
    have next : ∀ v : BitVec 64, (∀ t, t < 64 → v.getLsbD t = shlB a n (64 * i + t)) → ∀ b, b < 256 → bitAt (l.set i v) b = if b < 64 * (i + 1) then shlB a n b else false := by
      intro v hv b hb
      rw [bitAt_set (by omega)]
      by_cases hbi : b / 64 = i
      · rw [if_pos hbi, if_pos (by omega), hv _ (by omega)]
        congr 1
        omega
      · rw [if_neg hbi, hI b hb]
        by_cases h2 : b < 64 * i
        · rw [if_pos h2, if_pos (by omega)]
        · rw [if_neg h2, if_neg (by omega)]
    repeat' first
      | refine W.seq ?_ | (refine W.regS G ?_; dsimp only) | refine SW.nil ?_ | refine thenQ_normal ?_ | refine W.skip ?_ | refine W.exit ?_ | refine thenQ_exit ?_ | refine inBlockQ_exit ?_ | refine inBlockQ_normal ?_ | refine W.block ?_
      | (apply SW.toC; refine SWcall.go (And.intro ll (And.intro e1 (And.intro e2 ed))) ?_) | (apply SW.toOp; refine SWop.go (And.intro ll (And.intro e1 (And.intro e2 ed))) ?_) | (apply SW.toCG; first | refine SWcall.yes (And.intro ll (And.intro e1 (And.intro e2 ed))) ?_ | refine SWcall.no (And.intro ll (And.intro e1 (And.intro e2 ed))) ?_) | (apply SW.toG; first | refine SWop.yes (And.intro ll (And.intro e1 (And.intro e2 ed))) ?_ | refine SWop.no (And.intro ll (And.intro e1 (And.intro e2 ed))) ?_)
    refine W.condZ G (And.intro ll (And.intro e1 (And.intro e2 ed))) ?_ ?_
    all_goals intro hc
    · have hc' := of_decide_eq_true hc
      have ek : (((i - n / 64 : Nat) : Int) - 1) = ((i - n / 64 - 1 : Nat) : Int) := by omega
      have er : (64 - ((n % 64 : Nat) : Int)) = ((64 - n % 64 : Nat) : Int) := by omega
      have hb := next _ fun t ht => shl_step (a := a) n i t ht (by omega)
      repeat' first
        | refine W.seq ?_ | (refine W.regS G ?_; dsimp only) | refine SW.nil ?_ | refine thenQ_normal ?_ | refine W.skip ?_ | refine W.exit ?_ | refine thenQ_exit ?_ | refine inBlockQ_exit ?_ | refine inBlockQ_normal ?_ | refine W.block ?_
        | (apply SW.toC; refine SWcall.go (And.intro ll (And.intro e1 (And.intro e2 (And.intro ed (And.intro ek (And.intro er (And.intro gs ss))))))) ?_) | (apply SW.toOp; refine SWop.go (And.intro ll (And.intro e1 (And.intro e2 (And.intro ed (And.intro ek (And.intro er (And.intro gs ss))))))) ?_) | (apply SW.toCG; first | refine SWcall.yes (And.intro ll (And.intro e1 (And.intro e2 (And.intro ed (And.intro ek (And.intro er (And.intro gs ss))))))) ?_ | refine SWcall.no (And.intro ll (And.intro e1 (And.intro e2 (And.intro ed (And.intro ek (And.intro er (And.intro gs ss))))))) ?_) | (apply SW.toG; first | refine SWop.yes (And.intro ll (And.intro e1 (And.intro e2 (And.intro ed (And.intro ek (And.intro er (And.intro gs ss))))))) ?_ | refine SWop.no (And.intro ll (And.intro e1 (And.intro e2 (And.intro ed (And.intro ek (And.intro er (And.intro gs ss))))))) ?_)
      refine W.drawS G [[], [0], [1, 0], [], [3], [4, 3], [], [6], [7, 6], [5, 4, 3, 8, 7, 6], [2, 1, 0, 9, 5, 4, 3, 8, 7, 6], [0, 1, 2, 3, 4, 5, 6, 7, 8, 9, 10], [11, 0, 1, 2, 3, 4, 5, 6, 7, 8, 9, 10]] hmix ?_
      dsimp only
      repeat' first
        | (apply DW.nil; (focus (decide +kernel)))
        | (apply DW.toC; refine DWcall.go (And.intro ll (And.intro e1 (And.intro e2 (And.intro ed (And.intro ek (And.intro er (And.intro gs ss))))))) ?_) | (apply DW.toOp; refine DWop.go (And.intro ll (And.intro e1 (And.intro e2 (And.intro ed (And.intro ek (And.intro er (And.intro gs ss))))))) ?_) | (apply DW.toCG; first | refine DWcall.yes (And.intro ll (And.intro e1 (And.intro e2 (And.intro ed (And.intro ek (And.intro er (And.intro gs ss))))))) ?_ | refine DWcall.no (And.intro ll (And.intro e1 (And.intro e2 (And.intro ed (And.intro ek (And.intro er (And.intro gs ss))))))) ?_) | (apply DW.toG; first | refine DWop.yes (And.intro ll (And.intro e1 (And.intro e2 (And.intro ed (And.intro ek (And.intro er (And.intro gs ss))))))) ?_ | refine DWop.no (And.intro ll (And.intro e1 (And.intro e2 (And.intro ed (And.intro ek (And.intro er (And.intro gs ss))))))) ?_)
      repeat' first
        | refine W.seq ?_ | (refine W.regS G ?_; dsimp only) | refine SW.nil ?_ | refine thenQ_normal ?_ | refine W.skip ?_ | refine W.exit ?_ | refine thenQ_exit ?_ | refine inBlockQ_exit ?_ | refine inBlockQ_normal ?_ | refine W.block ?_
        | (apply SW.toC; refine SWcall.go (And.intro ll (And.intro e1 (And.intro e2 (And.intro ed (And.intro ek (And.intro er (And.intro gs ss))))))) ?_) | (apply SW.toOp; refine SWop.go (And.intro ll (And.intro e1 (And.intro e2 (And.intro ed (And.intro ek (And.intro er (And.intro gs ss))))))) ?_) | (apply SW.toCG; first | refine SWcall.yes (And.intro ll (And.intro e1 (And.intro e2 (And.intro ed (And.intro ek (And.intro er (And.intro gs ss))))))) ?_ | refine SWcall.no (And.intro ll (And.intro e1 (And.intro e2 (And.intro ed (And.intro ek (And.intro er (And.intro gs ss))))))) ?_) | (apply SW.toG; first | refine SWop.yes (And.intro ll (And.intro e1 (And.intro e2 (And.intro ed (And.intro ek (And.intro er (And.intro gs ss))))))) ?_ | refine SWop.no (And.intro ll (And.intro e1 (And.intro e2 (And.intro ed (And.intro ek (And.intro er (And.intro gs ss))))))) ?_)
      refine ⟨⟨(i + 1, _), by dsimp only; omega, by dsimp only; omega, ?_, hb⟩, Imp.le ?_, by show 4 - (i + 1) < 4 - i; omega⟩
      · dsimp only; rw [List.length_set]; exact ll
      exact sL_leZ (And.intro ll (And.intro e1 (And.intro e2 (And.intro ed (And.intro ek (And.intro er (And.intro gs ss)))))))
    · have hc' := of_decide_eq_false hc
      obtain rfl : i = n / 64 := by omega
      have ez : n / 64 - n / 64 = 0 := by omega
      have hb := next _ fun t ht => shl_step0 a n t ht
      repeat' first
        | refine W.seq ?_ | (refine W.regS G ?_; dsimp only) | refine SW.nil ?_ | refine thenQ_normal ?_ | refine W.skip ?_ | refine W.exit ?_ | refine thenQ_exit ?_ | refine inBlockQ_exit ?_ | refine inBlockQ_normal ?_ | refine W.block ?_
        | (apply SW.toC; refine SWcall.go (And.intro ll (And.intro e1 (And.intro e2 (And.intro ed ez)))) ?_) | (apply SW.toOp; refine SWop.go (And.intro ll (And.intro e1 (And.intro e2 (And.intro ed ez)))) ?_) | (apply SW.toCG; first | refine SWcall.yes (And.intro ll (And.intro e1 (And.intro e2 (And.intro ed ez)))) ?_ | refine SWcall.no (And.intro ll (And.intro e1 (And.intro e2 (And.intro ed ez)))) ?_) | (apply SW.toG; first | refine SWop.yes (And.intro ll (And.intro e1 (And.intro e2 (And.intro ed ez)))) ?_ | refine SWop.no (And.intro ll (And.intro e1 (And.intro e2 (And.intro ed ez)))) ?_)
      refine ⟨⟨(n / 64 + 1, _), by dsimp only; omega, by dsimp only; omega, ?_, hb⟩, Imp.le ?_, by show 4 - (n / 64 + 1) < 4 - n / 64; omega⟩
      · dsimp only; rw [List.length_set]; exact ll
      exact sL_leZ (And.intro ll (And.intro e1 (And.intro e2 (And.intro ed ez))))
  have ht' := of_decide_eq_false ht
  obtain rfl : i = 4 := by omega
  have hf : l = wB (shlB a n) := eq_wB ll fun b hb => by rw [hI b hb, if_pos (by omega)]
  rw [← hf]
  repeat' first
    | refine W.seq ?_ | (refine W.regS G ?_; dsimp only) | refine SW.nil ?_ | refine thenQ_normal ?_ | refine W.skip ?_ | refine W.exit ?_ | refine thenQ_exit ?_ | refine inBlockQ_exit ?_ | refine inBlockQ_normal ?_ | refine W.block ?_
    | (apply SW.toC; refine SWcall.go ll ?_) | (apply SW.toOp; refine SWop.go ll ?_) | (apply SW.toCG; first | refine SWcall.yes ll ?_ | refine SWcall.no ll ?_) | (apply SW.toG; first | refine SWop.yes ll ?_ | refine SWop.no ll ?_)
  refine W.ret ?_
  repeat' first
    | refine thenQ_ret ?_
    | refine inBlockQ_ret ?_
  refine fin1Z ll ?_
  exact leV_refl

noncomputable def rightS : FSpec := { run := fun ins => match ins with
  | [.agg 4 (.u 64 a), .i n, .b s] => chk (a.length = 4 ∧ 0 ≤ n ∧ n ≤ 256) (some (.agg 4 (.u 64 (wB (shrB a n.toNat (s && bitAt a 255)))), []))
  | _ => none }
theorem right_sound : SoundFn Try.prog glB 61 rightS.run := by
  have G := good_of (P := Try.prog) glB_ro (l := [(83, negativeS), (85, atS)]) (by simp only [List.forall_mem_cons]; exact ⟨negative_sound, at_sound, by simp⟩)
  refine soundFn_of_W G Try.func61 (by decide) rfl (by decide) ?_
  intro ins ret outs h
  unfold rightS at h
  dsimp only at h
  split at h
  rotate_left
  · cases h
  rename_i a n s
  obtain ⟨hl, h'⟩ := chk_some h
  clear h
  cases h'
  obtain ⟨la, hl⟩ := hl
  obtain ⟨n, rfl⟩ := Int.eq_ofNat_of_zero_le hl.1
  have hn : n ≤ 256 := by omega
  clear hl
  refine ⟨by show 3 ≤ 46; decide, fun w0 ext av => ?_⟩
  rw [Try.ntmps61, st0_eq]
  have eT : ((n : Int)).toNat = n := by omega
  rw [eT]
  generalize hs : (s && bitAt a 255) = z
  refine W.seq ?_
  refine W.mid (sL [(1, .i (n : Int)), (2, .b s), (3, .p 3 0 0 0), (6, .p 6 0 0 0)] [(3, .agg 4 (.u 64 a)), (6, .agg 4 (.u 64 (zeros 64 4)))] 46) ?_ ?_
  · repeat' first
      | refine W.seq ?_ | (refine W.regS G ?_; dsimp only) | refine SW.nil ?_ | refine thenQ_normal ?_ | refine W.skip ?_ | refine W.exit ?_ | refine thenQ_exit ?_ | refine inBlockQ_exit ?_ | refine inBlockQ_normal ?_ | refine W.block ?_
      | (apply SW.toC; refine SWcall.go True.intro ?_) | (apply SW.toOp; refine SWop.go True.intro ?_) | (apply SW.toCG; first | refine SWcall.yes True.intro ?_ | refine SWcall.no True.intro ?_) | (apply SW.toG; first | refine SWop.yes True.intro ?_ | refine SWop.no True.intro ?_)
    refine Imp.le ?_
    exact sL_leZ True.intro
  refine W.seq ?_
  refine W.mid (sL [(1, .i (n : Int)), (3, .p 3 0 0 0), (6, .p 6 0 0 0), (7, .p 7 0 0 0), (2, .b s)] [(3, .agg 4 (.u 64 a)), (6, .agg 4 (.u 64 (zeros 64 4))), (7, .u 64 0#64)] 46) ?_ ?_
  · repeat' first
      | refine W.seq ?_ | (refine W.regS G ?_; dsimp only) | refine SW.nil ?_ | refine thenQ_normal ?_ | refine W.skip ?_ | refine W.exit ?_ | refine thenQ_exit ?_ | refine inBlockQ_exit ?_ | refine inBlockQ_normal ?_ | refine W.block ?_
      | (apply SW.toC; refine SWcall.go True.intro ?_) | (apply SW.toOp; refine SWop.go True.intro ?_) | (apply SW.toCG; first | refine SWcall.yes True.intro ?_ | refine SWcall.no True.intro ?_) | (apply SW.toG; first | refine SWop.yes True.intro ?_ | refine SWop.no True.intro ?_)
    refine Imp.le ?_
    exact sL_leZ True.intro
  refine W.seq ?_
  refine W.midI (ι := {x : BitVec 64 // ∀ j, j < 64 → x.getLsbD j = z}) (fun x => sL [(1, .i (n : Int)), (3, .p 3 0 0 0), (6, .p 6 0 0 0), (7, .p 7 0 0 0)] [(3, .agg 4 (.u 64 a)), (6, .agg 4 (.u 64 (zeros 64 4))), (7, .u 64 x.1)] 46) ?_ ?_
  · cases s with
    | false =>
      have hz : z = false := hs.symm
      repeat' first
        | refine W.seq ?_ | (refine W.regS G ?_; dsimp only) | refine SW.nil ?_ | refine thenQ_normal ?_ | refine W.skip ?_ | refine W.exit ?_ | refine thenQ_exit ?_ | refine inBlockQ_exit ?_ | refine inBlockQ_normal ?_ | refine W.block ?_
        | (apply SW.toC; refine SWcall.go negativeS.eq_1 ?_) | (apply SW.toOp; refine SWop.go negativeS.eq_1 ?_) | (apply SW.toCG; first | refine SWcall.yes negativeS.eq_1 ?_ | refine SWcall.no negativeS.eq_1 ?_) | (apply SW.toG; first | refine SWop.yes negativeS.eq_1 ?_ | refine SWop.no negativeS.eq_1 ?_)
      refine W.condZ G negativeS.eq_1 ?_ ?_
      all_goals intro hc
      · exact absurd hc (by decide)
      repeat' first
        | refine W.seq ?_ | (refine W.regS G ?_; dsimp only) | refine SW.nil ?_ | refine thenQ_normal ?_ | refine W.skip ?_ | refine W.exit ?_ | refine thenQ_exit ?_ | refine inBlockQ_exit ?_ | refine inBlockQ_normal ?_ | refine W.block ?_
        | (apply SW.toC; refine SWcall.go negativeS.eq_1 ?_) | (apply SW.toOp; refine SWop.go negativeS.eq_1 ?_) | (apply SW.toCG; first | refine SWcall.yes negativeS.eq_1 ?_ | refine SWcall.no negativeS.eq_1 ?_) | (apply SW.toG; first | refine SWop.yes negativeS.eq_1 ?_ | refine SWop.no negativeS.eq_1 ?_)
      refine ⟨⟨0#64, fun j hj => by rw [hz]; exact BitVec.getLsbD_zero⟩, Imp.le ?_⟩
      exact sL_leZ negativeS.eq_1
    | true =>
      have hz : bitAt a 255 = z := hs
      repeat' first
        | refine W.seq ?_ | (refine W.regS G ?_; dsimp only) | refine SW.nil ?_ | refine thenQ_normal ?_ | refine W.skip ?_ | refine W.exit ?_ | refine thenQ_exit ?_ | refine inBlockQ_exit ?_ | refine inBlockQ_normal ?_ | refine W.block ?_
        | (apply SW.toC; refine SWcall.go (And.intro negativeS.eq_1 hz) ?_) | (apply SW.toOp; refine SWop.go (And.intro negativeS.eq_1 hz) ?_) | (apply SW.toCG; first | refine SWcall.yes (And.intro negativeS.eq_1 hz) ?_ | refine SWcall.no (And.intro negativeS.eq_1 hz) ?_) | (apply SW.toG; first | refine SWop.yes (And.intro negativeS.eq_1 hz) ?_ | refine SWop.no (And.intro negativeS.eq_1 hz) ?_)
      refine W.condZ G (And.intro negativeS.eq_1 hz) ?_ ?_
      all_goals intro hc
      · have hc' : z = true := hc
        repeat' first
          | refine W.seq ?_ | (refine W.regS G ?_; dsimp only) | refine SW.nil ?_ | refine thenQ_normal ?_ | refine W.skip ?_ | refine W.exit ?_ | refine thenQ_exit ?_ | refine inBlockQ_exit ?_ | refine inBlockQ_normal ?_ | refine W.block ?_
          | (apply SW.toC; refine SWcall.go (And.intro negativeS.eq_1 hz) ?_) | (apply SW.toOp; refine SWop.go (And.intro negativeS.eq_1 hz) ?_) | (apply SW.toCG; first | refine SWcall.yes (And.intro negativeS.eq_1 hz) ?_ | refine SWcall.no (And.intro negativeS.eq_1 hz) ?_) | (apply SW.toG; first | refine SWop.yes (And.intro negativeS.eq_1 hz) ?_ | refine SWop.no (And.intro negativeS.eq_1 hz) ?_)
        refine ⟨⟨~~~ 0#64, fun j hj => by rw [hc']; exact (by decide : ∀ j : Fin 64, (~~~ 0#64).getLsbD j.1 = true) ⟨j, hj⟩⟩, Imp.le ?_⟩
        exact sL_leZ (And.intro negativeS.eq_1 hz)
      · have hc' : z = false := hc
        repeat' first
          | refine W.seq ?_ | (refine W.regS G ?_; dsimp only) | refine SW.nil ?_ | refine thenQ_normal ?_ | refine W.skip ?_ | refine W.exit ?_ | refine thenQ_exit ?_ | refine inBlockQ_exit ?_ | refine inBlockQ_normal ?_ | refine W.block ?_
          | (apply SW.toC; refine SWcall.go (And.intro negativeS.eq_1 hz) ?_) | (apply SW.toOp; refine SWop.go (And.intro negativeS.eq_1 hz) ?_) | (apply SW.toCG; first | refine SWcall.yes (And.intro negativeS.eq_1 hz) ?_ | refine SWcall.no (And.intro negativeS.eq_1 hz) ?_) | (apply SW.toG; first | refine SWop.yes (And.intro negativeS.eq_1 hz) ?_ | refine SWop.no (And.intro negativeS.eq_1 hz) ?_)
        refine ⟨⟨0#64, fun j hj => by rw [hc']; exact BitVec.getLsbD_zero⟩, Imp.le ?_⟩
        exact sL_leZ (And.intro negativeS.eq_1 hz)
  rintro ⟨x, hx⟩
  dsimp only
  repeat' first
    | refine W.seq ?_ | (refine W.regS G ?_; dsimp only) | refine SW.nil ?_ | refine thenQ_normal ?_ | refine W.skip ?_ | refine W.exit ?_ | refine thenQ_exit ?_ | refine inBlockQ_exit ?_ | refine inBlockQ_normal ?_ | refine W.block ?_
    | (apply SW.toC; refine SWcall.go True.intro ?_) | (apply SW.toOp; refine SWop.go True.intro ?_) | (apply SW.toCG; first | refine SWcall.yes True.intro ?_ | refine SWcall.no True.intro ?_) | (apply SW.toG; first | refine SWop.yes True.intro ?_ | refine SWop.no True.intro ?_)
  refine W.loopI (ι := {p : Nat × List (BitVec 64) // p.1 ≤ 4 ∧ p.2.length = 4 ∧ ∀ b, b < 64 * p.1 → bitAt p.2 b = shrB a n z b}) (fun p => sL [(1, .i (n : Int)), (3, .p 3 0 0 0), (6, .p 6 0 0 0), (7, .p 7 0 0 0), (8, .clo 85 [.p 7 0 0 0, .p 3 0 0 0]), (9, .p 9 0 0 0), (20, .i (p.1.1 : Int))] [(3, .agg 4 (.u 64 a)), (6, .agg 4 (.u 64 (zeros 64 4))), (7, .u 64 x), (9, .agg 4 (.u 64 p.1.2))] 46) (fun p => 4 - p.1.1) ⟨(0, zeros 64 4), by show 0 ≤ 4; omega, rfl, fun b hb => absurd hb (by dsimp only; omega)⟩ (Imp.le ?_) ?_
  · exact sL_leZ True.intro
  rintro ⟨⟨i, l⟩, hi, ll, hI⟩
  dsimp only at hi ll hI
  repeat' first
    | refine W.seq ?_ | (refine W.regS G ?_; dsimp only) | refine SW.nil ?_ | refine thenQ_normal ?_ | refine W.skip ?_ | refine W.exit ?_ | refine thenQ_exit ?_ | refine inBlockQ_exit ?_ | refine inBlockQ_normal ?_ | refine W.block ?_
    | (apply SW.toC; refine SWcall.go ll ?_) | (apply SW.toOp; refine SWop.go ll ?_) | (apply SW.toCG; first | refine SWcall.yes ll ?_ | refine SWcall.no ll ?_) | (apply SW.toG; first | refine SWop.yes ll ?_ | refine SWop.no ll ?_)
  refine W.condZ G ll ?_ ?_
  all_goals intro ht
  · have ht' := of_decide_eq_true ht
    have e1 : ((n : Int) / 64) = ((n / 64 : Nat) : Int) := by omega
    have e2 : ((n : Int) % 64) = ((n % 64 : Nat) : Int) := by omega
    have e3 : (i : Int) + ((n / 64 : Nat) : Int) = ((i + n / 64 : Nat) : Int) := by omega
    have e4 : ((i + n / 64 : Nat) : Int) + 1 = ((i + n / 64 + 1 : Nat) : Int) := by omega
    have e5 : (64 - ((n % 64 : Nat) : Int)) = ((64 - n % 64 : Nat) : Int) := by omega
    have b1 : i + n / 64 < 10 := by omega
    have next : ∀ v : BitVec 64, (∀ t, t < 64 → v.getLsbD t = shrB a n z (64 * i + t)) → ∀ b, b < 64 * (i + 1) → bitAt (l.set i v) b = shrB a n z b := by
      intro v hv b hb
      rw [bitAt_set (by omega)]
      by_cases hbi : b / 64 = i
      · rw [if_pos hbi, hv _ (by omega)]
        congr 1
        omega
      · rw [if_neg hbi]
        exact hI b (by omega)
    have hb := next _ fun (t : Nat) (ht : t < 64) => shr_step (a := a) hx n i t ht
    repeat' first
      | refine W.seq ?_ | (refine W.regS G ?_; dsimp only) | refine SW.nil ?_ | refine thenQ_normal ?_ | refine W.skip ?_ | refine W.exit ?_ | refine thenQ_exit ?_ | refine inBlockQ_exit ?_ | refine inBlockQ_normal ?_ | refine W.block ?_
      | (apply SW.toC; refine SWcall.go (And.intro ll (And.intro la (And.intro e1 (And.intro e2 (And.intro e3 (And.intro e4 (And.intro e5 atS.eq_1))))))) ?_) | (apply SW.toOp; refine SWop.go (And.intro ll (And.intro la (And.intro e1 (And.intro e2 (And.intro e3 (And.intro e4 (And.intro e5 atS.eq_1))))))) ?_) | (apply SW.toCG; first | refine SWcall.yes (And.intro ll (And.intro la (And.intro e1 (And.intro e2 (And.intro e3 (And.intro e4 (And.intro e5 atS.eq_1))))))) ?_ | refine SWcall.no (And.intro ll (And.intro la (And.intro e1 (And.intro e2 (And.intro e3 (And.intro e4 (And.intro e5 atS.eq_1))))))) ?_) | (apply SW.toG; first | refine SWop.yes (And.intro ll (And.intro la (And.intro e1 (And.intro e2 (And.intro e3 (And.intro e4 (And.intro e5 atS.eq_1))))))) ?_ | refine SWop.no (And.intro ll (And.intro la (And.intro e1 (And.intro e2 (And.intro e3 (And.intro e4 (And.intro e5 atS.eq_1))))))) ?_)
    refine W.drawS G [[], [], [], [1, 2], [], [4], [3, 1, 2, 5, 4], [], [], [8], [7, 9, 8, 3, 1, 2], [], [11], [12, 11], [10, 7, 9, 8, 3, 1, 2, 13, 12, 11], [6, 3, 1, 2, 5, 4, 14, 10, 7, 9, 8, 13, 12, 11], [0, 1, 2, 3, 4, 5, 6, 7, 8, 9, 10, 11, 12, 13, 14, 15], [16, 0, 1, 2, 3, 4, 5, 6, 7, 8, 9, 10, 11, 12, 13, 14, 15]] hmix ?_
    dsimp only
    repeat' first
      | (apply DW.nil; (focus (decide +kernel)))
      | (apply DW.toC; refine DWcall.go (And.intro ll (And.intro la (And.intro e1 (And.intro e2 (And.intro e3 (And.intro e4 (And.intro e5 atS.eq_1))))))) ?_) | (apply DW.toClo; refine DWclo.go (And.intro ll (And.intro la (And.intro e1 (And.intro e2 (And.intro e3 (And.intro e4 (And.intro e5 atS.eq_1))))))) ?_) | (apply DW.toOp; refine DWop.go (And.intro ll (And.intro la (And.intro e1 (And.intro e2 (And.intro e3 (And.intro e4 (And.intro e5 atS.eq_1))))))) ?_) | (apply DW.toCG; first | refine DWcall.yes (And.intro ll (And.intro la (And.intro e1 (And.intro e2 (And.intro e3 (And.intro e4 (And.intro e5 atS.eq_1))))))) ?_ | refine DWcall.no (And.intro ll (And.intro la (And.intro e1 (And.intro e2 (And.intro e3 (And.intro e4 (And.intro e5 atS.eq_1))))))) ?_) | (apply DW.toG; first | refine DWop.yes (And.intro ll (And.intro la (And.intro e1 (And.intro e2 (And.intro e3 (And.intro e4 (And.intro e5 atS.eq_1))))))) ?_ | refine DWop.no (And.intro ll (And.intro la (And.intro e1 (And.intro e2 (And.intro e3 (And.intro e4 (And.intro e5 atS.eq_1))))))) ?_)
    repeat' first
      | refine W.seq ?_ | (refine W.regS G ?_; dsimp only) | refine SW.nil ?_ | refine thenQ_normal ?_ | refine W.skip ?_ | refine W.exit ?_ | refine thenQ_exit ?_ | refine inBlockQ_exit ?_ | refine inBlockQ_normal ?_ | refine W.block ?_
      | (apply SW.toC; refine SWcall.go (And.intro ll (And.intro la (And.intro e1 (And.intro e2 (And.intro e3 (And.intro e4 (And.intro e5 atS.eq_1))))))) ?_) | (apply SW.toOp; refine SWop.go (And.intro ll (And.intro la (And.intro e1 (And.intro e2 (And.intro e3 (And.intro e4 (And.intro e5 atS.eq_1))))))) ?_) | (apply SW.toCG; first | refine SWcall.yes (And.intro ll (And.intro la (And.intro e1 (And.intro e2 (And.intro e3 (And.intro e4 (And.intro e5 atS.eq_1))))))) ?_ | refine SWcall.no (And.intro ll (And.intro la (And.intro e1 (And.intro e2 (And.intro e3 (And.intro e4 (And.intro e5 atS.eq_1))))))) ?_) | (apply SW.toG; first | refine SWop.yes (And.intro ll (And.intro la (And.intro e1 (And.intro e2 (And.intro e3 (And.intro e4 (And.intro e5 atS.eq_1))))))) ?_ | refine SWop.no (And.intro ll (And.intro la (And.intro e1 (And.intro e2 (And.intro e3 (And.intro e4 (And.intro e5 atS.eq_1))))))) ?_)
    refine ⟨⟨(i + 1, _), by dsimp only; omega, ?_, hb⟩, Imp.le ?_, by show 4 - (i + 1) < 4 - i; omega⟩
    · dsimp only; rw [List.length_set]; exact ll
    exact sL_leZ (And.intro ll (And.intro la (And.intro e1 (And.intro e2 (And.intro e3 (And.intro e4 (And.intro e5 atS.eq_1)))))))
  have ht' := of_decide_eq_false ht
  obtain rfl : i = 4 := by omega
  have hf : l = wB (shrB a n z) := eq_wB ll fun b hb => hI b (by omega)
  rw [← hf]
  repeat' first
    | refine W.seq ?_ | (refine W.regS G ?_; dsimp only) | refine SW.nil ?_ | refine thenQ_normal ?_ | refine W.skip ?_ | refine W.exit ?_ | refine thenQ_exit ?_ | refine inBlockQ_exit ?_ | refine inBlockQ_normal ?_ | refine W.block ?_
    | (apply SW.toC; refine SWcall.go ll ?_) | (apply SW.toOp; refine SWop.go ll ?_) | (apply SW.toCG; first | refine SWcall.yes ll ?_ | refine SWcall.no ll ?_) | (apply SW.toG; first | refine SWop.yes ll ?_ | refine SWop.no ll ?_)
  refine W.ret ?_
  repeat' first
    | refine thenQ_ret ?_
    | refine inBlockQ_ret ?_
  refine fin1Z ll ?_
  exact leV_refl
end Go.Vm.C01

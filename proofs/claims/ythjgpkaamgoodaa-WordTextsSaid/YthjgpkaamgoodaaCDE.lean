/- What some functions of the program compute, walked through once. -/
import Derived.Test.YthjgpkaamgoodaaCDD
namespace Go.Vm.C01
open Go Go.Proofs
set_option linter.unusedVariables false
set_option linter.unusedSimpArgs false
set_option maxRecDepth 100000
set_option maxHeartbeats 8000000

theorem par_bad {s : List (BitVec 8)} (h : okF s = false) : parW s = zeros 64 4 ∧ parE s = 4 := by
  unfold parW parE
  rw [h]
  exact ⟨rfl, rfl⟩
theorem ok_head {s : List (BitVec 8)} (h : headOK s = false) : okF s = false := by
  unfold okF
  rw [h]
  rfl
theorem par_step {D d : Nat} (hd : d ≤ 9) : wOf (wv (wOf (wv (wOf D) * 10)) + d) = wOf (D * 10 + d) := by
  rw [wv_wOf, wv_wOf]
  refine wOf_eq ?_
  unfold B256
  omega
theorem par_big {D d : Nat} (hd : d ≤ 9) (h : ¬ B256 ≤ D) : (wv (wOf D) * 10 / B64 ^ 4 % 2 ^ 64 = 0 ↔ D * 10 < B256) ∧ (D * 10 < B256 → ((wv (wOf (wv (wOf D) * 10)) + d) / B256 % 2 ^ 64 = 0 ↔ ¬ B256 ≤ D * 10 + d)) := by
  have e1 : wv (wOf D) = D := by rw [wv_wOf]; exact Nat.mod_eq_of_lt (by omega)
  have hB : 0 < B256 := by decide
  have q1 : D * 10 / B256 < 2 ^ 64 := by
    have : D * 10 / B256 < 10 := by
      rw [Nat.div_lt_iff_lt_mul hB]
      omega
    omega
  rw [e1, wv_wOf, ← B256_eq, Nat.mod_eq_of_lt q1]
  refine ⟨Nat.div_eq_zero_iff_lt hB, fun hlt => ?_⟩
  have q2 : (D * 10 + d) / B256 < 2 ^ 64 := by
    have : (D * 10 + d) / B256 < 10 := by
      rw [Nat.div_lt_iff_lt_mul hB]
      omega
    omega
  rw [Nat.mod_eq_of_lt hlt, Nat.mod_eq_of_lt q2, Nat.div_eq_zero_iff_lt hB]
  omega
noncomputable def parseS : FSpec := { run := fun ins => match ins with
  | [.s s] => chk (s.length ≤ 140737488355328) (some (.tup [.agg 4 (.u 64 (parW s)), .i (parE s)], []))
  | _ => none }
theorem parse_sound : SoundFn Try.prog glB 52 parseS.run := by
  have G := good_of (P := Try.prog) glB_ro (l := [(64, wideS), (63, addS)]) (by simp only [List.forall_mem_cons]; exact ⟨wide_sound, wadd_sound, by simp⟩)
  refine soundFn_of_W G Try.func52 (by decide) rfl (by decide) ?_
  intro ins ret outs h
  unfold parseS at h
  dsimp only at h
  split at h
  rotate_left
  · cases h
  rename_i s
  obtain ⟨hlim, h'⟩ := chk_some h
  clear h
  cases h'
  refine ⟨by show 1 ≤ 72; decide, fun w0 ext av => ?_⟩
  rw [Try.ntmps52, st0_eq]
  have e0 : bytesOf { data := #[] } = [] := by rfl
  have hH : headOK s = (decide (1 ≤ s.length) && (decide (s.length ≤ 78) && !(decide (1 < s.length) && decide (s.getD 0 0 = 48#8)))) := rfl
  refine W.seq ?_
  refine W.mid (sL [(0, .s s), (2, .p 2 0 0 0)] [(2, .agg 4 (.u 64 (zeros 64 4)))] 72) ?_ ?_
  · repeat' first
      | refine W.seq ?_ | (refine W.regS G ?_; dsimp only) | refine SW.nil ?_ | refine thenQ_normal ?_ | refine W.skip ?_ | refine W.exit ?_ | refine thenQ_exit ?_ | refine inBlockQ_exit ?_ | refine inBlockQ_normal ?_ | refine W.block ?_
      | (apply SW.toC; refine SWcall.go True.intro ?_) | (apply SW.toOp; refine SWop.go True.intro ?_) | (apply SW.toCG; first | refine SWcall.yes True.intro ?_ | refine SWcall.no True.intro ?_) | (apply SW.toG; first | refine SWop.yes True.intro ?_ | refine SWop.no True.intro ?_)
    refine Imp.le ?_
    exact sL_leZ True.intro
  refine W.seq ?_
  refine W.midI (ι := {u : Unit // headOK s = true}) (fun _ => sL [(0, .s s), (2, .p 2 0 0 0)] [(2, .agg 4 (.u 64 (zeros 64 4)))] 72) ?_ ?_
  · by_cases h0 : s.length = 0
    · have q0 := eq_true (show s = [] from List.eq_nil_of_length_eq_zero h0)
      have hb : headOK s = false := by rw [hH, decide_eq_false (by omega)]; rfl
      obtain ⟨p1, p2⟩ := par_bad (ok_head hb)
      rw [p1, p2]
      repeat' first
        | refine W.seq ?_ | (refine W.regS G ?_; dsimp only) | refine SW.nil ?_ | refine thenQ_normal ?_ | refine W.skip ?_ | refine W.exit ?_ | refine thenQ_exit ?_ | refine inBlockQ_exit ?_ | refine inBlockQ_normal ?_ | refine W.block ?_
        | (apply SW.toC; refine SWcall.go (And.intro e0 q0) ?_) | (apply SW.toOp; refine SWop.go (And.intro e0 q0) ?_) | (apply SW.toCG; first | refine SWcall.yes (And.intro e0 q0) ?_ | refine SWcall.no (And.intro e0 q0) ?_) | (apply SW.toG; first | refine SWop.yes (And.intro e0 q0) ?_ | refine SWop.no (And.intro e0 q0) ?_)
      refine W.condZ G (And.intro e0 q0) ?_ ?_
      all_goals intro hcc
      rotate_left
      · exact absurd hcc (by decide)
      clear hcc
      repeat' first
        | refine W.seq ?_ | (refine W.regS G ?_; dsimp only) | refine SW.nil ?_ | refine thenQ_normal ?_ | refine W.skip ?_ | refine W.exit ?_ | refine thenQ_exit ?_ | refine inBlockQ_exit ?_ | refine inBlockQ_normal ?_ | refine W.block ?_
        | (apply SW.toC; refine SWcall.go (And.intro e0 q0) ?_) | (apply SW.toOp; refine SWop.go (And.intro e0 q0) ?_) | (apply SW.toCG; first | refine SWcall.yes (And.intro e0 q0) ?_ | refine SWcall.no (And.intro e0 q0) ?_) | (apply SW.toG; first | refine SWop.yes (And.intro e0 q0) ?_ | refine SWop.no (And.intro e0 q0) ?_)
      refine W.ret ?_
      repeat' first
        | refine thenQ_ret ?_
        | refine inBlockQ_ret ?_
      refine fin2Z (And.intro e0 q0) ?_ ?_
      · exact leV_refl
      · exact leV_refl
    have q0 := eq_false (show ¬ s = [] from fun c => h0 (by rw [c]; rfl))
    by_cases h1 : 78 < s.length
    · have q1 := eq_true (show (78 : Int) < (s.length : Int) by omega)
      have hb : headOK s = false := by rw [hH, decide_eq_false (show ¬ s.length ≤ 78 by omega)]; cases decide (1 ≤ s.length) <;> rfl
      obtain ⟨p1, p2⟩ := par_bad (ok_head hb)
      rw [p1, p2]
      repeat' first
        | refine W.seq ?_ | (refine W.regS G ?_; dsimp only) | refine SW.nil ?_ | refine thenQ_normal ?_ | refine W.skip ?_ | refine W.exit ?_ | refine thenQ_exit ?_ | refine inBlockQ_exit ?_ | refine inBlockQ_normal ?_ | refine W.block ?_
        | (apply SW.toC; refine SWcall.go (And.intro e0 (And.intro q0 q1)) ?_) | (apply SW.toOp; refine SWop.go (And.intro e0 (And.intro q0 q1)) ?_) | (apply SW.toCG; first | refine SWcall.yes (And.intro e0 (And.intro q0 q1)) ?_ | refine SWcall.no (And.intro e0 (And.intro q0 q1)) ?_) | (apply SW.toG; first | refine SWop.yes (And.intro e0 (And.intro q0 q1)) ?_ | refine SWop.no (And.intro e0 (And.intro q0 q1)) ?_)
      refine W.condZ G (And.intro e0 (And.intro q0 q1)) ?_ ?_
      all_goals intro hcc
      rotate_left
      · exact absurd hcc (by decide)
      clear hcc
      repeat' first
        | refine W.seq ?_ | (refine W.regS G ?_; dsimp only) | refine SW.nil ?_ | refine thenQ_normal ?_ | refine W.skip ?_ | refine W.exit ?_ | refine thenQ_exit ?_ | refine inBlockQ_exit ?_ | refine inBlockQ_normal ?_ | refine W.block ?_
        | (apply SW.toC; refine SWcall.go (And.intro e0 (And.intro q0 q1)) ?_) | (apply SW.toOp; refine SWop.go (And.intro e0 (And.intro q0 q1)) ?_) | (apply SW.toCG; first | refine SWcall.yes (And.intro e0 (And.intro q0 q1)) ?_ | refine SWcall.no (And.intro e0 (And.intro q0 q1)) ?_) | (apply SW.toG; first | refine SWop.yes (And.intro e0 (And.intro q0 q1)) ?_ | refine SWop.no (And.intro e0 (And.intro q0 q1)) ?_)
      refine W.ret ?_
      repeat' first
        | refine thenQ_ret ?_
        | refine inBlockQ_ret ?_
      refine fin2Z (And.intro e0 (And.intro q0 q1)) ?_ ?_
      · exact leV_refl
      · exact leV_refl
    have q1 := eq_false (show ¬ (78 : Int) < (s.length : Int) by omega)
    by_cases h2 : 1 < s.length
    · have q2 := eq_true (show (1 : Int) < (s.length : Int) by omega)
      by_cases h3 : s.getD 0 0 = 48#8
      · have q3 := eq_true h3
        have hb : headOK s = false := by
          rw [hH, decide_eq_true h2, decide_eq_true h3]
          cases decide (1 ≤ s.length) <;> cases decide (s.length ≤ 78) <;> rfl
        obtain ⟨p1, p2⟩ := par_bad (ok_head hb)
        rw [p1, p2]
        repeat' first
          | refine W.seq ?_ | (refine W.regS G ?_; dsimp only) | refine SW.nil ?_ | refine thenQ_normal ?_ | refine W.skip ?_ | refine W.exit ?_ | refine thenQ_exit ?_ | refine inBlockQ_exit ?_ | refine inBlockQ_normal ?_ | refine W.block ?_
          | (apply SW.toC; refine SWcall.go (And.intro e0 (And.intro q0 (And.intro q1 (And.intro q2 q3)))) ?_) | (apply SW.toOp; refine SWop.go (And.intro e0 (And.intro q0 (And.intro q1 (And.intro q2 q3)))) ?_) | (apply SW.toCG; first | refine SWcall.yes (And.intro e0 (And.intro q0 (And.intro q1 (And.intro q2 q3)))) ?_ | refine SWcall.no (And.intro e0 (And.intro q0 (And.intro q1 (And.intro q2 q3)))) ?_) | (apply SW.toG; first | refine SWop.yes (And.intro e0 (And.intro q0 (And.intro q1 (And.intro q2 q3)))) ?_ | refine SWop.no (And.intro e0 (And.intro q0 (And.intro q1 (And.intro q2 q3)))) ?_)
        refine W.condZ G (And.intro e0 (And.intro q0 (And.intro q1 (And.intro q2 q3)))) ?_ ?_
        all_goals intro hcc
        rotate_left
        · exact absurd hcc (by decide)
        clear hcc
        repeat' first
          | refine W.seq ?_ | (refine W.regS G ?_; dsimp only) | refine SW.nil ?_ | refine thenQ_normal ?_ | refine W.skip ?_ | refine W.exit ?_ | refine thenQ_exit ?_ | refine inBlockQ_exit ?_ | refine inBlockQ_normal ?_ | refine W.block ?_
          | (apply SW.toC; refine SWcall.go (And.intro e0 (And.intro q0 (And.intro q1 (And.intro q2 q3)))) ?_) | (apply SW.toOp; refine SWop.go (And.intro e0 (And.intro q0 (And.intro q1 (And.intro q2 q3)))) ?_) | (apply SW.toCG; first | refine SWcall.yes (And.intro e0 (And.intro q0 (And.intro q1 (And.intro q2 q3)))) ?_ | refine SWcall.no (And.intro e0 (And.intro q0 (And.intro q1 (And.intro q2 q3)))) ?_) | (apply SW.toG; first | refine SWop.yes (And.intro e0 (And.intro q0 (And.intro q1 (And.intro q2 q3)))) ?_ | refine SWop.no (And.intro e0 (And.intro q0 (And.intro q1 (And.intro q2 q3)))) ?_)
        refine W.ret ?_
        repeat' first
          | refine thenQ_ret ?_
          | refine inBlockQ_ret ?_
        refine fin2Z (And.intro e0 (And.intro q0 (And.intro q1 (And.intro q2 q3)))) ?_ ?_
        · exact leV_refl
        · exact leV_refl
      · have q3 := eq_false h3
        have hg : headOK s = true := by
          rw [hH, decide_eq_true h2, decide_eq_false h3, decide_eq_true (by omega), decide_eq_true (by omega)]
          rfl
        repeat' first
          | refine W.seq ?_ | (refine W.regS G ?_; dsimp only) | refine SW.nil ?_ | refine thenQ_normal ?_ | refine W.skip ?_ | refine W.exit ?_ | refine thenQ_exit ?_ | refine inBlockQ_exit ?_ | refine inBlockQ_normal ?_ | refine W.block ?_
          | (apply SW.toC; refine SWcall.go (And.intro e0 (And.intro q0 (And.intro q1 (And.intro q2 q3)))) ?_) | (apply SW.toOp; refine SWop.go (And.intro e0 (And.intro q0 (And.intro q1 (And.intro q2 q3)))) ?_) | (apply SW.toCG; first | refine SWcall.yes (And.intro e0 (And.intro q0 (And.intro q1 (And.intro q2 q3)))) ?_ | refine SWcall.no (And.intro e0 (And.intro q0 (And.intro q1 (And.intro q2 q3)))) ?_) | (apply SW.toG; first | refine SWop.yes (And.intro e0 (And.intro q0 (And.intro q1 (And.intro q2 q3)))) ?_ | refine SWop.no (And.intro e0 (And.intro q0 (And.intro q1 (And.intro q2 q3)))) ?_)
        refine W.condZ G (And.intro e0 (And.intro q0 (And.intro q1 (And.intro q2 q3)))) ?_ ?_
        all_goals intro hcc
        · exact absurd hcc (by decide)
        clear hcc
        repeat' first
          | refine W.seq ?_ | (refine W.regS G ?_; dsimp only) | refine SW.nil ?_ | refine thenQ_normal ?_ | refine W.skip ?_ | refine W.exit ?_ | refine thenQ_exit ?_ | refine inBlockQ_exit ?_ | refine inBlockQ_normal ?_ | refine W.block ?_
          | (apply SW.toC; refine SWcall.go (And.intro e0 (And.intro q0 (And.intro q1 (And.intro q2 q3)))) ?_) | (apply SW.toOp; refine SWop.go (And.intro e0 (And.intro q0 (And.intro q1 (And.intro q2 q3)))) ?_) | (apply SW.toCG; first | refine SWcall.yes (And.intro e0 (And.intro q0 (And.intro q1 (And.intro q2 q3)))) ?_ | refine SWcall.no (And.intro e0 (And.intro q0 (And.intro q1 (And.intro q2 q3)))) ?_) | (apply SW.toG; first | refine SWop.yes (And.intro e0 (And.intro q0 (And.intro q1 (And.intro q2 q3)))) ?_ | refine SWop.no (And.intro e0 (And.intro q0 (And.intro q1 (And.intro q2 q3)))) ?_)
        refine ⟨⟨(), hg⟩, Imp.le ?_⟩
        exact sL_leZ (And.intro e0 (And.intro q0 (And.intro q1 (And.intro q2 q3))))
    · have q2 := eq_false (show ¬ (1 : Int) < (s.length : Int) by omega)
      have hg : headOK s = true := by
        rw [hH, decide_eq_false h2, decide_eq_true (by omega), decide_eq_true (by omega)]
        rfl
      repeat' first
        | refine W.seq ?_ | (refine W.regS G ?_; dsimp only) | refine SW.nil ?_ | refine thenQ_normal ?_ | refine W.skip ?_ | refine W.exit ?_ | refine thenQ_exit ?_ | refine inBlockQ_exit ?_ | refine inBlockQ_normal ?_ | refine W.block ?_
        | (apply SW.toC; refine SWcall.go (And.intro e0 (And.intro q0 (And.intro q1 q2))) ?_) | (apply SW.toOp; refine SWop.go (And.intro e0 (And.intro q0 (And.intro q1 q2))) ?_) | (apply SW.toCG; first | refine SWcall.yes (And.intro e0 (And.intro q0 (And.intro q1 q2))) ?_ | refine SWcall.no (And.intro e0 (And.intro q0 (And.intro q1 q2))) ?_) | (apply SW.toG; first | refine SWop.yes (And.intro e0 (And.intro q0 (And.intro q1 q2))) ?_ | refine SWop.no (And.intro e0 (And.intro q0 (And.intro q1 q2))) ?_)
      refine W.condZ G (And.intro e0 (And.intro q0 (And.intro q1 q2))) ?_ ?_
      all_goals intro hcc
      · exact absurd hcc (by decide)
      clear hcc
      repeat' first
        | refine W.seq ?_ | (refine W.regS G ?_; dsimp only) | refine SW.nil ?_ | refine thenQ_normal ?_ | refine W.skip ?_ | refine W.exit ?_ | refine thenQ_exit ?_ | refine inBlockQ_exit ?_ | refine inBlockQ_normal ?_ | refine W.block ?_
        | (apply SW.toC; refine SWcall.go (And.intro e0 (And.intro q0 (And.intro q1 q2))) ?_) | (apply SW.toOp; refine SWop.go (And.intro e0 (And.intro q0 (And.intro q1 q2))) ?_) | (apply SW.toCG; first | refine SWcall.yes (And.intro e0 (And.intro q0 (And.intro q1 q2))) ?_ | refine SWcall.no (And.intro e0 (And.intro q0 (And.intro q1 q2))) ?_) | (apply SW.toG; first | refine SWop.yes (And.intro e0 (And.intro q0 (And.intro q1 q2))) ?_ | refine SWop.no (And.intro e0 (And.intro q0 (And.intro q1 q2))) ?_)
      refine ⟨⟨(), hg⟩, Imp.le ?_⟩
      exact sL_leZ (And.intro e0 (And.intro q0 (And.intro q1 q2)))
  rintro ⟨_, hg⟩
  obtain ⟨n, hn⟩ : ∃ n, s.length = n := ⟨_, rfl⟩
  have hok : okF s = allD s n := by unfold okF; rw [hg, hn]; rfl
  rw [hn] at hlim
  have z0 : wOf (dv s 0) = zeros 64 4 := zeros_wOf.symm
  have z1 : decide (B256 ≤ dv s 0) = false := decide_eq_false (by show ¬ B256 ≤ 0; decide)
  repeat' first
    | refine W.seq ?_ | (refine W.regS G ?_; dsimp only) | refine SW.nil ?_ | refine thenQ_normal ?_ | refine W.skip ?_ | refine W.exit ?_ | refine thenQ_exit ?_ | refine inBlockQ_exit ?_ | refine inBlockQ_normal ?_ | refine W.block ?_
    | (apply SW.toC; refine SWcall.go hn ?_) | (apply SW.toOp; refine SWop.go hn ?_) | (apply SW.toCG; first | refine SWcall.yes hn ?_ | refine SWcall.no hn ?_) | (apply SW.toG; first | refine SWop.yes hn ?_ | refine SWop.no hn ?_)
  refine W.loopI (ι := {i : Nat // i ≤ n ∧ allD s i = true}) (fun i => sL [(2, .p 2 0 0 0), (4, .p 4 0 0 0), (30, .sl true (.u 8 s)), (31, .i (n : Int)), (5, .b (decide (B256 ≤ dv s i.1))), (32, .i (i.1 : Int))] [(2, .agg 4 (.u 64 (zeros 64 4))), (4, .agg 4 (.u 64 (wOf (dv s i.1))))] 72) (fun i => n - i.1) ⟨0, Nat.zero_le _, rfl⟩ (Imp.le ?_) ?_
  · exact sL_leZ (And.intro z0 (And.intro z1 hn))
  rintro ⟨i, hi, hal⟩
  repeat' first
    | refine W.seq ?_ | (refine W.regS G ?_; dsimp only) | refine SW.nil ?_ | refine thenQ_normal ?_ | refine W.skip ?_ | refine W.exit ?_ | refine thenQ_exit ?_ | refine inBlockQ_exit ?_ | refine inBlockQ_normal ?_ | refine W.block ?_
    | (apply SW.toC; refine SWcall.go hn ?_) | (apply SW.toOp; refine SWop.go hn ?_) | (apply SW.toCG; first | refine SWcall.yes hn ?_ | refine SWcall.no hn ?_) | (apply SW.toG; first | refine SWop.yes hn ?_ | refine SWop.no hn ?_)
  refine W.condZ G hn ?_ ?_
  all_goals intro ht
  · have ht' := of_decide_eq_true ht
    have hi2 : i < n := by omega
    have hAl : allD s (i + 1) = (allD s i && isD (s.getD i 0)) := rfl
    have hV : dv s (i + 1) = dv s i * 10 + ((s.getD i 0).toNat - 48) := rfl
    have hbad : isD (s.getD i 0) = false → okF s = false := fun h => by rw [hok]; exact allD_no h hi2
    generalize hx : s.getD i 0 = c at hAl hV hbad
    by_cases a1 : c < 48#8
    · have a2 : c.toNat < 48 := a1
      have q1 := eq_true a1
      obtain ⟨p1, p2⟩ := par_bad (hbad (by unfold isD; rw [decide_eq_false (show ¬ 48 ≤ c.toNat by omega)]; rfl))
      rw [p1, p2]
      repeat' first
        | refine W.seq ?_ | (refine W.regS G ?_; dsimp only) | refine SW.nil ?_ | refine thenQ_normal ?_ | refine W.skip ?_ | refine W.exit ?_ | refine thenQ_exit ?_ | refine inBlockQ_exit ?_ | refine inBlockQ_normal ?_ | refine W.block ?_
        | (apply SW.toC; refine SWcall.go (And.intro hn (And.intro hx q1)) ?_) | (apply SW.toOp; refine SWop.go (And.intro hn (And.intro hx q1)) ?_) | (apply SW.toCG; first | refine SWcall.yes (And.intro hn (And.intro hx q1)) ?_ | refine SWcall.no (And.intro hn (And.intro hx q1)) ?_) | (apply SW.toG; first | refine SWop.yes (And.intro hn (And.intro hx q1)) ?_ | refine SWop.no (And.intro hn (And.intro hx q1)) ?_)
      refine W.condZ G (And.intro hn (And.intro hx q1)) ?_ ?_
      all_goals intro hcc
      rotate_left
      · exact absurd hcc (by decide)
      clear hcc
      repeat' first
        | refine W.seq ?_ | (refine W.regS G ?_; dsimp only) | refine SW.nil ?_ | refine thenQ_normal ?_ | refine W.skip ?_ | refine W.exit ?_ | refine thenQ_exit ?_ | refine inBlockQ_exit ?_ | refine inBlockQ_normal ?_ | refine W.block ?_
        | (apply SW.toC; refine SWcall.go (And.intro hn (And.intro hx q1)) ?_) | (apply SW.toOp; refine SWop.go (And.intro hn (And.intro hx q1)) ?_) | (apply SW.toCG; first | refine SWcall.yes (And.intro hn (And.intro hx q1)) ?_ | refine SWcall.no (And.intro hn (And.intro hx q1)) ?_) | (apply SW.toG; first | refine SWop.yes (And.intro hn (And.intro hx q1)) ?_ | refine SWop.no (And.intro hn (And.intro hx q1)) ?_)
      refine W.ret ?_
      repeat' first
        | refine thenQ_ret ?_
        | refine inBlockQ_ret ?_
      refine fin2Z (And.intro hn (And.intro hx q1)) ?_ ?_
      · exact leV_refl
      · exact leV_refl
    have a2 : ¬ c.toNat < 48 := a1
    have q1 := eq_false a1
    by_cases b1 : 57#8 < c
    · have b2 : 57 < c.toNat := b1
      have q2 := eq_true b1
      obtain ⟨p1, p2⟩ := par_bad (hbad (by unfold isD; rw [decide_eq_false (show ¬ c.toNat ≤ 57 by omega)]; cases decide (48 ≤ c.toNat) <;> rfl))
      rw [p1, p2]
      repeat' first
        | refine W.seq ?_ | (refine W.regS G ?_; dsimp only) | refine SW.nil ?_ | refine thenQ_normal ?_ | refine W.skip ?_ | refine W.exit ?_ | refine thenQ_exit ?_ | refine inBlockQ_exit ?_ | refine inBlockQ_normal ?_ | refine W.block ?_
        | (apply SW.toC; refine SWcall.go (And.intro hn (And.intro hx (And.intro q1 q2))) ?_) | (apply SW.toOp; refine SWop.go (And.intro hn (And.intro hx (And.intro q1 q2))) ?_) | (apply SW.toCG; first | refine SWcall.yes (And.intro hn (And.intro hx (And.intro q1 q2))) ?_ | refine SWcall.no (And.intro hn (And.intro hx (And.intro q1 q2))) ?_) | (apply SW.toG; first | refine SWop.yes (And.intro hn (And.intro hx (And.intro q1 q2))) ?_ | refine SWop.no (And.intro hn (And.intro hx (And.intro q1 q2))) ?_)
      refine W.condZ G (And.intro hn (And.intro hx (And.intro q1 q2))) ?_ ?_
      all_goals intro hcc
      rotate_left
      · exact absurd hcc (by decide)
      clear hcc
      repeat' first
        | refine W.seq ?_ | (refine W.regS G ?_; dsimp only) | refine SW.nil ?_ | refine thenQ_normal ?_ | refine W.skip ?_ | refine W.exit ?_ | refine thenQ_exit ?_ | refine inBlockQ_exit ?_ | refine inBlockQ_normal ?_ | refine W.block ?_
        | (apply SW.toC; refine SWcall.go (And.intro hn (And.intro hx (And.intro q1 q2))) ?_) | (apply SW.toOp; refine SWop.go (And.intro hn (And.intro hx (And.intro q1 q2))) ?_) | (apply SW.toCG; first | refine SWcall.yes (And.intro hn (And.intro hx (And.intro q1 q2))) ?_ | refine SWcall.no (And.intro hn (And.intro hx (And.intro q1 q2))) ?_) | (apply SW.toG; first | refine SWop.yes (And.intro hn (And.intro hx (And.intro q1 q2))) ?_ | refine SWop.no (And.intro hn (And.intro hx (And.intro q1 q2))) ?_)
      refine W.ret ?_
      repeat' first
        | refine thenQ_ret ?_
        | refine inBlockQ_ret ?_
      refine fin2Z (And.intro hn (And.intro hx (And.intro q1 q2))) ?_ ?_
      · exact leV_refl
      · exact leV_refl
    have b2 : ¬ 57 < c.toNat := b1
    have q2 := eq_false b1
    have hal2 : allD s (i + 1) = true := by
      rw [hAl, hal]
      unfold isD
      rw [decide_eq_true (show 48 ≤ c.toNat by omega), decide_eq_true (show c.toNat ≤ 57 by omega)]
      rfl
    obtain ⟨D, hD⟩ : ∃ D, dv s i = D := ⟨_, rfl⟩
    rw [hD] at hV ⊢
    obtain ⟨d, hd⟩ : ∃ d, c.toNat - 48 = d := ⟨_, rfl⟩
    rw [hd] at hV
    have hd9 : d ≤ 9 := by omega
    have wX : wv ((zeros 64 4).set 0 (BitVec.setWidth 64 (c - 48#8))) = d := by
      show wv [BitVec.setWidth 64 (c - 48#8), 0#64, 0#64, 0#64] = d
      have h8 : (c - 48#8).toNat = d := by
        rw [BitVec.toNat_sub]
        show (2 ^ 8 - 48 + c.toNat) % 2 ^ 8 = d
        omega
      rw [wOf_small, wv_wOf, BitVec.toNat_setWidth, h8]
      unfold B256
      omega
    have w10 := wv10
    obtain ⟨T, hT⟩ : ∃ T, (zeros 64 4).set 0 10#64 = T := ⟨_, rfl⟩
    obtain ⟨X, hX⟩ : ∃ X, (zeros 64 4).set 0 (BitVec.setWidth 64 (c - 48#8)) = X := ⟨_, rfl⟩
    rw [hT] at w10
    rw [hX] at wX
    have lX : X.length = 4 := by rw [← hX]; rfl
    have lW := wideF_len (wOf D) T 4
    have sW := wide_low (wOf D) T
    have vW := wide_eq (wOf D) T
    have eW := eq_lOf lW vW
    have gW : (wideF (wOf D) T 4).getD 4 0 = BitVec.ofNat 64 (wv (wOf D) * wv T / B64 ^ 4) := by rw [eW]; exact lOf_at (by omega)
    obtain ⟨W8, hW8⟩ : ∃ W, wideF (wOf D) T 4 = W := ⟨_, rfl⟩
    rw [hW8] at lW sW gW
    rw [w10] at sW gW
    have hstep := par_step (D := D) hd9
    have hbig := fun h => par_big (D := D) (d := d) hd9 h
    obtain ⟨L, hL⟩ : ∃ L, wOf (wv (wOf D) * 10) = L := ⟨_, rfl⟩
    rw [hL] at sW hstep hbig
    have lL : L.length = 4 := by rw [← hL]; rfl
    obtain ⟨p4, hp4⟩ : ∃ p, BitVec.ofNat 64 (wv (wOf D) * 10 / B64 ^ 4) = p := ⟨_, rfl⟩
    rw [hp4] at gW
    have vp4 : p4.toNat = wv (wOf D) * 10 / B64 ^ 4 % 2 ^ 64 := by rw [← hp4, BitVec.toNat_ofNat]
    obtain ⟨cy, hcy⟩ : ∃ y, BitVec.ofNat 64 ((wv L + d) / B256) = y := ⟨_, rfl⟩
    have vcy : cy.toNat = (wv L + d) / B256 % 2 ^ 64 := by rw [← hcy, BitVec.toNat_ofNat]
    rw [← vp4, ← vcy] at hbig
    rw [← hV] at hstep hbig
    by_cases hlong : B256 ≤ D
    · have g1 := decide_eq_true hlong
      have g2 : decide (B256 ≤ dv s (i + 1)) = true := decide_eq_true (by rw [hV]; omega)
      repeat' first
        | refine W.seq ?_ | (refine W.regS G ?_; dsimp only) | refine SW.nil ?_ | refine thenQ_normal ?_ | refine W.skip ?_ | refine W.exit ?_ | refine thenQ_exit ?_ | refine inBlockQ_exit ?_ | refine inBlockQ_normal ?_ | refine W.block ?_
        | (apply SW.toC; refine SWcall.go (And.intro hn (And.intro hx (And.intro q1 (And.intro q2 (And.intro wideS.eq_1 (And.intro addS.eq_1 (And.intro hT (And.intro hX (And.intro hW8 (And.intro lW (And.intro sW (And.intro gW (And.intro lL (And.intro wX (And.intro hcy (And.intro hstep g1)))))))))))))))) ?_) | (apply SW.toOp; refine SWop.go (And.intro hn (And.intro hx (And.intro q1 (And.intro q2 (And.intro wideS.eq_1 (And.intro addS.eq_1 (And.intro hT (And.intro hX (And.intro hW8 (And.intro lW (And.intro sW (And.intro gW (And.intro lL (And.intro wX (And.intro hcy (And.intro hstep g1)))))))))))))))) ?_) | (apply SW.toCG; first | refine SWcall.yes (And.intro hn (And.intro hx (And.intro q1 (And.intro q2 (And.intro wideS.eq_1 (And.intro addS.eq_1 (And.intro hT (And.intro hX (And.intro hW8 (And.intro lW (And.intro sW (And.intro gW (And.intro lL (And.intro wX (And.intro hcy (And.intro hstep g1)))))))))))))))) ?_ | refine SWcall.no (And.intro hn (And.intro hx (And.intro q1 (And.intro q2 (And.intro wideS.eq_1 (And.intro addS.eq_1 (And.intro hT (And.intro hX (And.intro hW8 (And.intro lW (And.intro sW (And.intro gW (And.intro lL (And.intro wX (And.intro hcy (And.intro hstep g1)))))))))))))))) ?_) | (apply SW.toG; first | refine SWop.yes (And.intro hn (And.intro hx (And.intro q1 (And.intro q2 (And.intro wideS.eq_1 (And.intro addS.eq_1 (And.intro hT (And.intro hX (And.intro hW8 (And.intro lW (And.intro sW (And.intro gW (And.intro lL (And.intro wX (And.intro hcy (And.intro hstep g1)))))))))))))))) ?_ | refine SWop.no (And.intro hn (And.intro hx (And.intro q1 (And.intro q2 (And.intro wideS.eq_1 (And.intro addS.eq_1 (And.intro hT (And.intro hX (And.intro hW8 (And.intro lW (And.intro sW (And.intro gW (And.intro lL (And.intro wX (And.intro hcy (And.intro hstep g1)))))))))))))))) ?_)
      refine W.condZ G (And.intro hn (And.intro hx (And.intro q1 (And.intro q2 (And.intro wideS.eq_1 (And.intro addS.eq_1 (And.intro hT (And.intro hX (And.intro hW8 (And.intro lW (And.intro sW (And.intro gW (And.intro lL (And.intro wX (And.intro hcy (And.intro hstep g1)))))))))))))))) ?_ ?_
      all_goals intro hcc
      · exact absurd hcc (by decide)
      clear hcc
      repeat' first
        | refine W.seq ?_ | (refine W.regS G ?_; dsimp only) | refine SW.nil ?_ | refine thenQ_normal ?_ | refine W.skip ?_ | refine W.exit ?_ | refine thenQ_exit ?_ | refine inBlockQ_exit ?_ | refine inBlockQ_normal ?_ | refine W.block ?_
        | (apply SW.toC; refine SWcall.go (And.intro hn (And.intro hx (And.intro q1 (And.intro q2 (And.intro wideS.eq_1 (And.intro addS.eq_1 (And.intro hT (And.intro hX (And.intro hW8 (And.intro lW (And.intro sW (And.intro gW (And.intro lL (And.intro wX (And.intro hcy (And.intro hstep g1)))))))))))))))) ?_) | (apply SW.toOp; refine SWop.go (And.intro hn (And.intro hx (And.intro q1 (And.intro q2 (And.intro wideS.eq_1 (And.intro addS.eq_1 (And.intro hT (And.intro hX (And.intro hW8 (And.intro lW (And.intro sW (And.intro gW (And.intro lL (And.intro wX (And.intro hcy (And.intro hstep g1)))))))))))))))) ?_) | (apply SW.toCG; first | refine SWcall.yes (And.intro hn (And.intro hx (And.intro q1 (And.intro q2 (And.intro wideS.eq_1 (And.intro addS.eq_1 (And.intro hT (And.intro hX (And.intro hW8 (And.intro lW (And.intro sW (And.intro gW (And.intro lL (And.intro wX (And.intro hcy (And.intro hstep g1)))))))))))))))) ?_ | refine SWcall.no (And.intro hn (And.intro hx (And.intro q1 (And.intro q2 (And.intro wideS.eq_1 (And.intro addS.eq_1 (And.intro hT (And.intro hX (And.intro hW8 (And.intro lW (And.intro sW (And.intro gW (And.intro lL (And.intro wX (And.intro hcy (And.intro hstep g1)))))))))))))))) ?_) | (apply SW.toG; first | refine SWop.yes (And.intro hn (And.intro hx (And.intro q1 (And.intro q2 (And.intro wideS.eq_1 (And.intro addS.eq_1 (And.intro hT (And.intro hX (And.intro hW8 (And.intro lW (And.intro sW (And.intro gW (And.intro lL (And.intro wX (And.intro hcy (And.intro hstep g1)))))))))))))))) ?_ | refine SWop.no (And.intro hn (And.intro hx (And.intro q1 (And.intro q2 (And.intro wideS.eq_1 (And.intro addS.eq_1 (And.intro hT (And.intro hX (And.intro hW8 (And.intro lW (And.intro sW (And.intro gW (And.intro lL (And.intro wX (And.intro hcy (And.intro hstep g1)))))))))))))))) ?_)
      refine ⟨⟨i + 1, by omega, hal2⟩, Imp.le ?_, by show n - (i + 1) < n - i; omega⟩
      exact sL_leZ (And.intro g2 (And.intro hn (And.intro hx (And.intro q1 (And.intro q2 (And.intro wideS.eq_1 (And.intro addS.eq_1 (And.intro hT (And.intro hX (And.intro hW8 (And.intro lW (And.intro sW (And.intro gW (And.intro lL (And.intro wX (And.intro hcy (And.intro hstep g1)))))))))))))))))
    obtain ⟨hb1, hb2⟩ := hbig hlong
    have g1 := decide_eq_false hlong
    by_cases h4 : p4 = 0#64
    · have q4 := eq_true h4
      have hlt := hb1.1 (by rw [h4]; rfl)
      have hb3 := hb2 hlt
      by_cases hc : cy = 0#64
      · have q5 := eq_true hc
        have g2 : decide (B256 ≤ dv s (i + 1)) = false := decide_eq_false (hb3.1 (by rw [hc]; rfl))
        repeat' first
          | refine W.seq ?_ | (refine W.regS G ?_; dsimp only) | refine SW.nil ?_ | refine thenQ_normal ?_ | refine W.skip ?_ | refine W.exit ?_ | refine thenQ_exit ?_ | refine inBlockQ_exit ?_ | refine inBlockQ_normal ?_ | refine W.block ?_
          | (apply SW.toC; refine SWcall.go (And.intro hn (And.intro hx (And.intro q1 (And.intro q2 (And.intro wideS.eq_1 (And.intro addS.eq_1 (And.intro hT (And.intro hX (And.intro hW8 (And.intro lW (And.intro sW (And.intro gW (And.intro lL (And.intro wX (And.intro hcy (And.intro hstep (And.intro g1 (And.intro q4 q5)))))))))))))))))) ?_) | (apply SW.toOp; refine SWop.go (And.intro hn (And.intro hx (And.intro q1 (And.intro q2 (And.intro wideS.eq_1 (And.intro addS.eq_1 (And.intro hT (And.intro hX (And.intro hW8 (And.intro lW (And.intro sW (And.intro gW (And.intro lL (And.intro wX (And.intro hcy (And.intro hstep (And.intro g1 (And.intro q4 q5)))))))))))))))))) ?_) | (apply SW.toCG; first | refine SWcall.yes (And.intro hn (And.intro hx (And.intro q1 (And.intro q2 (And.intro wideS.eq_1 (And.intro addS.eq_1 (And.intro hT (And.intro hX (And.intro hW8 (And.intro lW (And.intro sW (And.intro gW (And.intro lL (And.intro wX (And.intro hcy (And.intro hstep (And.intro g1 (And.intro q4 q5)))))))))))))))))) ?_ | refine SWcall.no (And.intro hn (And.intro hx (And.intro q1 (And.intro q2 (And.intro wideS.eq_1 (And.intro addS.eq_1 (And.intro hT (And.intro hX (And.intro hW8 (And.intro lW (And.intro sW (And.intro gW (And.intro lL (And.intro wX (And.intro hcy (And.intro hstep (And.intro g1 (And.intro q4 q5)))))))))))))))))) ?_) | (apply SW.toG; first | refine SWop.yes (And.intro hn (And.intro hx (And.intro q1 (And.intro q2 (And.intro wideS.eq_1 (And.intro addS.eq_1 (And.intro hT (And.intro hX (And.intro hW8 (And.intro lW (And.intro sW (And.intro gW (And.intro lL (And.intro wX (And.intro hcy (And.intro hstep (And.intro g1 (And.intro q4 q5)))))))))))))))))) ?_ | refine SWop.no (And.intro hn (And.intro hx (And.intro q1 (And.intro q2 (And.intro wideS.eq_1 (And.intro addS.eq_1 (And.intro hT (And.intro hX (And.intro hW8 (And.intro lW (And.intro sW (And.intro gW (And.intro lL (And.intro wX (And.intro hcy (And.intro hstep (And.intro g1 (And.intro q4 q5)))))))))))))))))) ?_)
        refine W.condZ G (And.intro hn (And.intro hx (And.intro q1 (And.intro q2 (And.intro wideS.eq_1 (And.intro addS.eq_1 (And.intro hT (And.intro hX (And.intro hW8 (And.intro lW (And.intro sW (And.intro gW (And.intro lL (And.intro wX (And.intro hcy (And.intro hstep (And.intro g1 (And.intro q4 q5)))))))))))))))))) ?_ ?_
        all_goals intro hcc
        · exact absurd hcc (by decide)
        clear hcc
        repeat' first
          | refine W.seq ?_ | (refine W.regS G ?_; dsimp only) | refine SW.nil ?_ | refine thenQ_normal ?_ | refine W.skip ?_ | refine W.exit ?_ | refine thenQ_exit ?_ | refine inBlockQ_exit ?_ | refine inBlockQ_normal ?_ | refine W.block ?_
          | (apply SW.toC; refine SWcall.go (And.intro hn (And.intro hx (And.intro q1 (And.intro q2 (And.intro wideS.eq_1 (And.intro addS.eq_1 (And.intro hT (And.intro hX (And.intro hW8 (And.intro lW (And.intro sW (And.intro gW (And.intro lL (And.intro wX (And.intro hcy (And.intro hstep (And.intro g1 (And.intro q4 q5)))))))))))))))))) ?_) | (apply SW.toOp; refine SWop.go (And.intro hn (And.intro hx (And.intro q1 (And.intro q2 (And.intro wideS.eq_1 (And.intro addS.eq_1 (And.intro hT (And.intro hX (And.intro hW8 (And.intro lW (And.intro sW (And.intro gW (And.intro lL (And.intro wX (And.intro hcy (And.intro hstep (And.intro g1 (And.intro q4 q5)))))))))))))))))) ?_) | (apply SW.toCG; first | refine SWcall.yes (And.intro hn (And.intro hx (And.intro q1 (And.intro q2 (And.intro wideS.eq_1 (And.intro addS.eq_1 (And.intro hT (And.intro hX (And.intro hW8 (And.intro lW (And.intro sW (And.intro gW (And.intro lL (And.intro wX (And.intro hcy (And.intro hstep (And.intro g1 (And.intro q4 q5)))))))))))))))))) ?_ | refine SWcall.no (And.intro hn (And.intro hx (And.intro q1 (And.intro q2 (And.intro wideS.eq_1 (And.intro addS.eq_1 (And.intro hT (And.intro hX (And.intro hW8 (And.intro lW (And.intro sW (And.intro gW (And.intro lL (And.intro wX (And.intro hcy (And.intro hstep (And.intro g1 (And.intro q4 q5)))))))))))))))))) ?_) | (apply SW.toG; first | refine SWop.yes (And.intro hn (And.intro hx (And.intro q1 (And.intro q2 (And.intro wideS.eq_1 (And.intro addS.eq_1 (And.intro hT (And.intro hX (And.intro hW8 (And.intro lW (And.intro sW (And.intro gW (And.intro lL (And.intro wX (And.intro hcy (And.intro hstep (And.intro g1 (And.intro q4 q5)))))))))))))))))) ?_ | refine SWop.no (And.intro hn (And.intro hx (And.intro q1 (And.intro q2 (And.intro wideS.eq_1 (And.intro addS.eq_1 (And.intro hT (And.intro hX (And.intro hW8 (And.intro lW (And.intro sW (And.intro gW (And.intro lL (And.intro wX (And.intro hcy (And.intro hstep (And.intro g1 (And.intro q4 q5)))))))))))))))))) ?_)
        refine ⟨⟨i + 1, by omega, hal2⟩, Imp.le ?_, by show n - (i + 1) < n - i; omega⟩
        exact sL_leZ (And.intro g2 (And.intro hn (And.intro hx (And.intro q1 (And.intro q2 (And.intro wideS.eq_1 (And.intro addS.eq_1 (And.intro hT (And.intro hX (And.intro hW8 (And.intro lW (And.intro sW (And.intro gW (And.intro lL (And.intro wX (And.intro hcy (And.intro hstep (And.intro g1 (And.intro q4 q5)))))))))))))))))))
      · have q5 := eq_false hc
        have g2 : decide (B256 ≤ dv s (i + 1)) = true := decide_eq_true (by
          apply Decidable.byContradiction
          intro hno
          exact hc (BitVec.eq_of_toNat_eq (hb3.2 hno)))
        repeat' first
          | refine W.seq ?_ | (refine W.regS G ?_; dsimp only) | refine SW.nil ?_ | refine thenQ_normal ?_ | refine W.skip ?_ | refine W.exit ?_ | refine thenQ_exit ?_ | refine inBlockQ_exit ?_ | refine inBlockQ_normal ?_ | refine W.block ?_
          | (apply SW.toC; refine SWcall.go (And.intro hn (And.intro hx (And.intro q1 (And.intro q2 (And.intro wideS.eq_1 (And.intro addS.eq_1 (And.intro hT (And.intro hX (And.intro hW8 (And.intro lW (And.intro sW (And.intro gW (And.intro lL (And.intro wX (And.intro hcy (And.intro hstep (And.intro g1 (And.intro q4 q5)))))))))))))))))) ?_) | (apply SW.toOp; refine SWop.go (And.intro hn (And.intro hx (And.intro q1 (And.intro q2 (And.intro wideS.eq_1 (And.intro addS.eq_1 (And.intro hT (And.intro hX (And.intro hW8 (And.intro lW (And.intro sW (And.intro gW (And.intro lL (And.intro wX (And.intro hcy (And.intro hstep (And.intro g1 (And.intro q4 q5)))))))))))))))))) ?_) | (apply SW.toCG; first | refine SWcall.yes (And.intro hn (And.intro hx (And.intro q1 (And.intro q2 (And.intro wideS.eq_1 (And.intro addS.eq_1 (And.intro hT (And.intro hX (And.intro hW8 (And.intro lW (And.intro sW (And.intro gW (And.intro lL (And.intro wX (And.intro hcy (And.intro hstep (And.intro g1 (And.intro q4 q5)))))))))))))))))) ?_ | refine SWcall.no (And.intro hn (And.intro hx (And.intro q1 (And.intro q2 (And.intro wideS.eq_1 (And.intro addS.eq_1 (And.intro hT (And.intro hX (And.intro hW8 (And.intro lW (And.intro sW (And.intro gW (And.intro lL (And.intro wX (And.intro hcy (And.intro hstep (And.intro g1 (And.intro q4 q5)))))))))))))))))) ?_) | (apply SW.toG; first | refine SWop.yes (And.intro hn (And.intro hx (And.intro q1 (And.intro q2 (And.intro wideS.eq_1 (And.intro addS.eq_1 (And.intro hT (And.intro hX (And.intro hW8 (And.intro lW (And.intro sW (And.intro gW (And.intro lL (And.intro wX (And.intro hcy (And.intro hstep (And.intro g1 (And.intro q4 q5)))))))))))))))))) ?_ | refine SWop.no (And.intro hn (And.intro hx (And.intro q1 (And.intro q2 (And.intro wideS.eq_1 (And.intro addS.eq_1 (And.intro hT (And.intro hX (And.intro hW8 (And.intro lW (And.intro sW (And.intro gW (And.intro lL (And.intro wX (And.intro hcy (And.intro hstep (And.intro g1 (And.intro q4 q5)))))))))))))))))) ?_)
        refine W.condZ G (And.intro hn (And.intro hx (And.intro q1 (And.intro q2 (And.intro wideS.eq_1 (And.intro addS.eq_1 (And.intro hT (And.intro hX (And.intro hW8 (And.intro lW (And.intro sW (And.intro gW (And.intro lL (And.intro wX (And.intro hcy (And.intro hstep (And.intro g1 (And.intro q4 q5)))))))))))))))))) ?_ ?_
        all_goals intro hcc
        · exact absurd hcc (by decide)
        clear hcc
        repeat' first
          | refine W.seq ?_ | (refine W.regS G ?_; dsimp only) | refine SW.nil ?_ | refine thenQ_normal ?_ | refine W.skip ?_ | refine W.exit ?_ | refine thenQ_exit ?_ | refine inBlockQ_exit ?_ | refine inBlockQ_normal ?_ | refine W.block ?_
          | (apply SW.toC; refine SWcall.go (And.intro hn (And.intro hx (And.intro q1 (And.intro q2 (And.intro wideS.eq_1 (And.intro addS.eq_1 (And.intro hT (And.intro hX (And.intro hW8 (And.intro lW (And.intro sW (And.intro gW (And.intro lL (And.intro wX (And.intro hcy (And.intro hstep (And.intro g1 (And.intro q4 q5)))))))))))))))))) ?_) | (apply SW.toOp; refine SWop.go (And.intro hn (And.intro hx (And.intro q1 (And.intro q2 (And.intro wideS.eq_1 (And.intro addS.eq_1 (And.intro hT (And.intro hX (And.intro hW8 (And.intro lW (And.intro sW (And.intro gW (And.intro lL (And.intro wX (And.intro hcy (And.intro hstep (And.intro g1 (And.intro q4 q5)))))))))))))))))) ?_) | (apply SW.toCG; first | refine SWcall.yes (And.intro hn (And.intro hx (And.intro q1 (And.intro q2 (And.intro wideS.eq_1 (And.intro addS.eq_1 (And.intro hT (And.intro hX (And.intro hW8 (And.intro lW (And.intro sW (And.intro gW (And.intro lL (And.intro wX (And.intro hcy (And.intro hstep (And.intro g1 (And.intro q4 q5)))))))))))))))))) ?_ | refine SWcall.no (And.intro hn (And.intro hx (And.intro q1 (And.intro q2 (And.intro wideS.eq_1 (And.intro addS.eq_1 (And.intro hT (And.intro hX (And.intro hW8 (And.intro lW (And.intro sW (And.intro gW (And.intro lL (And.intro wX (And.intro hcy (And.intro hstep (And.intro g1 (And.intro q4 q5)))))))))))))))))) ?_) | (apply SW.toG; first | refine SWop.yes (And.intro hn (And.intro hx (And.intro q1 (And.intro q2 (And.intro wideS.eq_1 (And.intro addS.eq_1 (And.intro hT (And.intro hX (And.intro hW8 (And.intro lW (And.intro sW (And.intro gW (And.intro lL (And.intro wX (And.intro hcy (And.intro hstep (And.intro g1 (And.intro q4 q5)))))))))))))))))) ?_ | refine SWop.no (And.intro hn (And.intro hx (And.intro q1 (And.intro q2 (And.intro wideS.eq_1 (And.intro addS.eq_1 (And.intro hT (And.intro hX (And.intro hW8 (And.intro lW (And.intro sW (And.intro gW (And.intro lL (And.intro wX (And.intro hcy (And.intro hstep (And.intro g1 (And.intro q4 q5)))))))))))))))))) ?_)
        refine ⟨⟨i + 1, by omega, hal2⟩, Imp.le ?_, by show n - (i + 1) < n - i; omega⟩
        exact sL_leZ (And.intro g2 (And.intro hn (And.intro hx (And.intro q1 (And.intro q2 (And.intro wideS.eq_1 (And.intro addS.eq_1 (And.intro hT (And.intro hX (And.intro hW8 (And.intro lW (And.intro sW (And.intro gW (And.intro lL (And.intro wX (And.intro hcy (And.intro hstep (And.intro g1 (And.intro q4 q5)))))))))))))))))))
    · have q4 := eq_false h4
      have hge : ¬ D * 10 < B256 := fun c => h4 (BitVec.eq_of_toNat_eq (hb1.2 c))
      have g2 : decide (B256 ≤ dv s (i + 1)) = true := decide_eq_true (by rw [hV]; omega)
      repeat' first
        | refine W.seq ?_ | (refine W.regS G ?_; dsimp only) | refine SW.nil ?_ | refine thenQ_normal ?_ | refine W.skip ?_ | refine W.exit ?_ | refine thenQ_exit ?_ | refine inBlockQ_exit ?_ | refine inBlockQ_normal ?_ | refine W.block ?_
        | (apply SW.toC; refine SWcall.go (And.intro hn (And.intro hx (And.intro q1 (And.intro q2 (And.intro wideS.eq_1 (And.intro addS.eq_1 (And.intro hT (And.intro hX (And.intro hW8 (And.intro lW (And.intro sW (And.intro gW (And.intro lL (And.intro wX (And.intro hcy (And.intro hstep (And.intro g1 q4))))))))))))))))) ?_) | (apply SW.toOp; refine SWop.go (And.intro hn (And.intro hx (And.intro q1 (And.intro q2 (And.intro wideS.eq_1 (And.intro addS.eq_1 (And.intro hT (And.intro hX (And.intro hW8 (And.intro lW (And.intro sW (And.intro gW (And.intro lL (And.intro wX (And.intro hcy (And.intro hstep (And.intro g1 q4))))))))))))))))) ?_) | (apply SW.toCG; first | refine SWcall.yes (And.intro hn (And.intro hx (And.intro q1 (And.intro q2 (And.intro wideS.eq_1 (And.intro addS.eq_1 (And.intro hT (And.intro hX (And.intro hW8 (And.intro lW (And.intro sW (And.intro gW (And.intro lL (And.intro wX (And.intro hcy (And.intro hstep (And.intro g1 q4))))))))))))))))) ?_ | refine SWcall.no (And.intro hn (And.intro hx (And.intro q1 (And.intro q2 (And.intro wideS.eq_1 (And.intro addS.eq_1 (And.intro hT (And.intro hX (And.intro hW8 (And.intro lW (And.intro sW (And.intro gW (And.intro lL (And.intro wX (And.intro hcy (And.intro hstep (And.intro g1 q4))))))))))))))))) ?_) | (apply SW.toG; first | refine SWop.yes (And.intro hn (And.intro hx (And.intro q1 (And.intro q2 (And.intro wideS.eq_1 (And.intro addS.eq_1 (And.intro hT (And.intro hX (And.intro hW8 (And.intro lW (And.intro sW (And.intro gW (And.intro lL (And.intro wX (And.intro hcy (And.intro hstep (And.intro g1 q4))))))))))))))))) ?_ | refine SWop.no (And.intro hn (And.intro hx (And.intro q1 (And.intro q2 (And.intro wideS.eq_1 (And.intro addS.eq_1 (And.intro hT (And.intro hX (And.intro hW8 (And.intro lW (And.intro sW (And.intro gW (And.intro lL (And.intro wX (And.intro hcy (And.intro hstep (And.intro g1 q4))))))))))))))))) ?_)
      refine W.condZ G (And.intro hn (And.intro hx (And.intro q1 (And.intro q2 (And.intro wideS.eq_1 (And.intro addS.eq_1 (And.intro hT (And.intro hX (And.intro hW8 (And.intro lW (And.intro sW (And.intro gW (And.intro lL (And.intro wX (And.intro hcy (And.intro hstep (And.intro g1 q4))))))))))))))))) ?_ ?_
      all_goals intro hcc
      · exact absurd hcc (by decide)
      clear hcc
      repeat' first
        | refine W.seq ?_ | (refine W.regS G ?_; dsimp only) | refine SW.nil ?_ | refine thenQ_normal ?_ | refine W.skip ?_ | refine W.exit ?_ | refine thenQ_exit ?_ | refine inBlockQ_exit ?_ | refine inBlockQ_normal ?_ | refine W.block ?_
        | (apply SW.toC; refine SWcall.go (And.intro hn (And.intro hx (And.intro q1 (And.intro q2 (And.intro wideS.eq_1 (And.intro addS.eq_1 (And.intro hT (And.intro hX (And.intro hW8 (And.intro lW (And.intro sW (And.intro gW (And.intro lL (And.intro wX (And.intro hcy (And.intro hstep (And.intro g1 q4))))))))))))))))) ?_) | (apply SW.toOp; refine SWop.go (And.intro hn (And.intro hx (And.intro q1 (And.intro q2 (And.intro wideS.eq_1 (And.intro addS.eq_1 (And.intro hT (And.intro hX (And.intro hW8 (And.intro lW (And.intro sW (And.intro gW (And.intro lL (And.intro wX (And.intro hcy (And.intro hstep (And.intro g1 q4))))))))))))))))) ?_) | (apply SW.toCG; first | refine SWcall.yes (And.intro hn (And.intro hx (And.intro q1 (And.intro q2 (And.intro wideS.eq_1 (And.intro addS.eq_1 (And.intro hT (And.intro hX (And.intro hW8 (And.intro lW (And.intro sW (And.intro gW (And.intro lL (And.intro wX (And.intro hcy (And.intro hstep (And.intro g1 q4))))))))))))))))) ?_ | refine SWcall.no (And.intro hn (And.intro hx (And.intro q1 (And.intro q2 (And.intro wideS.eq_1 (And.intro addS.eq_1 (And.intro hT (And.intro hX (And.intro hW8 (And.intro lW (And.intro sW (And.intro gW (And.intro lL (And.intro wX (And.intro hcy (And.intro hstep (And.intro g1 q4))))))))))))))))) ?_) | (apply SW.toG; first | refine SWop.yes (And.intro hn (And.intro hx (And.intro q1 (And.intro q2 (And.intro wideS.eq_1 (And.intro addS.eq_1 (And.intro hT (And.intro hX (And.intro hW8 (And.intro lW (And.intro sW (And.intro gW (And.intro lL (And.intro wX (And.intro hcy (And.intro hstep (And.intro g1 q4))))))))))))))))) ?_ | refine SWop.no (And.intro hn (And.intro hx (And.intro q1 (And.intro q2 (And.intro wideS.eq_1 (And.intro addS.eq_1 (And.intro hT (And.intro hX (And.intro hW8 (And.intro lW (And.intro sW (And.intro gW (And.intro lL (And.intro wX (And.intro hcy (And.intro hstep (And.intro g1 q4))))))))))))))))) ?_)
      refine ⟨⟨i + 1, by omega, hal2⟩, Imp.le ?_, by show n - (i + 1) < n - i; omega⟩
      exact sL_leZ (And.intro g2 (And.intro hn (And.intro hx (And.intro q1 (And.intro q2 (And.intro wideS.eq_1 (And.intro addS.eq_1 (And.intro hT (And.intro hX (And.intro hW8 (And.intro lW (And.intro sW (And.intro gW (And.intro lL (And.intro wX (And.intro hcy (And.intro hstep (And.intro g1 q4))))))))))))))))))
  have ht' := of_decide_eq_false ht
  obtain rfl : i = n := by omega
  have hok2 : okF s = true := by rw [hok]; exact hal
  have hW : parW s = if B256 ≤ dv s i then zeros 64 4 else wOf (dv s i) := by unfold parW; rw [hok2, if_pos rfl, hn]
  have hE : parE s = if B256 ≤ dv s i then 2 else 0 := by unfold parE; rw [hok2, if_pos rfl, hn]
  by_cases hlong : B256 ≤ dv s i
  · rw [if_pos hlong] at hW hE
    rw [hW, hE, decide_eq_true hlong]
    repeat' first
      | refine W.seq ?_ | (refine W.regS G ?_; dsimp only) | refine SW.nil ?_ | refine thenQ_normal ?_ | refine W.skip ?_ | refine W.exit ?_ | refine thenQ_exit ?_ | refine inBlockQ_exit ?_ | refine inBlockQ_normal ?_ | refine W.block ?_
      | (apply SW.toC; refine SWcall.go hn ?_) | (apply SW.toOp; refine SWop.go hn ?_) | (apply SW.toCG; first | refine SWcall.yes hn ?_ | refine SWcall.no hn ?_) | (apply SW.toG; first | refine SWop.yes hn ?_ | refine SWop.no hn ?_)
    refine W.condZ G hn ?_ ?_
    all_goals intro hcc
    rotate_left
    · exact absurd hcc (by decide)
    clear hcc
    repeat' first
      | refine W.seq ?_ | (refine W.regS G ?_; dsimp only) | refine SW.nil ?_ | refine thenQ_normal ?_ | refine W.skip ?_ | refine W.exit ?_ | refine thenQ_exit ?_ | refine inBlockQ_exit ?_ | refine inBlockQ_normal ?_ | refine W.block ?_
      | (apply SW.toC; refine SWcall.go hn ?_) | (apply SW.toOp; refine SWop.go hn ?_) | (apply SW.toCG; first | refine SWcall.yes hn ?_ | refine SWcall.no hn ?_) | (apply SW.toG; first | refine SWop.yes hn ?_ | refine SWop.no hn ?_)
    refine W.ret ?_
    repeat' first
      | refine thenQ_ret ?_
      | refine inBlockQ_ret ?_
    refine fin2Z hn ?_ ?_
    · exact leV_refl
    · exact leV_refl
  · rw [if_neg hlong] at hW hE
    rw [hW, hE, decide_eq_false hlong]
    repeat' first
      | refine W.seq ?_ | (refine W.regS G ?_; dsimp only) | refine SW.nil ?_ | refine thenQ_normal ?_ | refine W.skip ?_ | refine W.exit ?_ | refine thenQ_exit ?_ | refine inBlockQ_exit ?_ | refine inBlockQ_normal ?_ | refine W.block ?_
      | (apply SW.toC; refine SWcall.go hn ?_) | (apply SW.toOp; refine SWop.go hn ?_) | (apply SW.toCG; first | refine SWcall.yes hn ?_ | refine SWcall.no hn ?_) | (apply SW.toG; first | refine SWop.yes hn ?_ | refine SWop.no hn ?_)
    refine W.condZ G hn ?_ ?_
    all_goals intro hcc
    · exact absurd hcc (by decide)
    clear hcc
    repeat' first
      | refine W.seq ?_ | (refine W.regS G ?_; dsimp only) | refine SW.nil ?_ | refine thenQ_normal ?_ | refine W.skip ?_ | refine W.exit ?_ | refine thenQ_exit ?_ | refine inBlockQ_exit ?_ | refine inBlockQ_normal ?_ | refine W.block ?_
      | (apply SW.toC; refine SWcall.go hn ?_) | (apply SW.toOp; refine SWop.go hn ?_) | (apply SW.toCG; first | refine SWcall.yes hn ?_ | refine SWcall.no hn ?_) | (apply SW.toG; first | refine SWop.yes hn ?_ | refine SWop.no hn ?_)
    refine W.ret ?_
    repeat' first
      | refine thenQ_ret ?_
      | refine inBlockQ_ret ?_
    refine fin2Z hn ?_ ?_
    · exact leV_refl
    · exact leV_refl
end Go.Vm.C01

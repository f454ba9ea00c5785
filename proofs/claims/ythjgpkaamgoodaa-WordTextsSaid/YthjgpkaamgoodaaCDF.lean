/- What some functions of the program compute, walked through once. -/
import Derived.Test.YthjgpkaamgoodaaCDE
namespace Go.Vm.C01
open Go Go.Proofs
set_option linter.unusedVariables false
set_option linter.unusedSimpArgs false
set_option maxRecDepth 100000
set_option maxHeartbeats 8000000

theorem pow10_le (k : Nat) : 10 ^ k ≤ 65536 ^ (2 * k) := by
  rw [Nat.pow_mul]
  exact Nat.pow_le_pow_left (by decide) k
theorem prod10 {k D : Nat} (h : D < 65536 ^ k) : prodF (dOf k D) [10#64] = dOf (k + 1) (D * 10) := by
  have h1 : okD [10#64] := okD_cons okD_nil (by decide)
  obtain ⟨h2, h3⟩ := prodF_val (dOf_ok k D) h1
  have lk := dOf_len k D
  refine eq_dOf (by rw [prodF_len, lk]; rfl) h2 ?_
  rw [lk, dOf_val' h] at h3
  exact h3
theorem sum1 {k V : Nat} {x : BitVec 64} (hk : 0 < k) (h : V < 65536 ^ k) (hx : x.toNat < 65536) : sumD (dOf k V) [x] = dOf (k + 1) (V + x.toNat) := by
  have h1 : okD [x] := okD_cons okD_nil hx
  obtain ⟨h2, h3⟩ := sumD_val (dOf_ok k V) h1
  have lk := dOf_len k V
  have l1 : [x].length = 1 := rfl
  have hl := sumD_len (dOf k V) [x]
  rw [lk, l1, Nat.max_eq_left hk] at hl
  rw [lk, l1, Nat.max_eq_left hk, dOf_val' h] at h3
  refine eq_dOf hl h2 ?_
  rw [h3]
  congr 1
  show 0 + 65536 ^ 0 * x.toNat = x.toNat
  simp
theorem rParse_sound : SoundFn Try.prog glB 53 parseS.run := by
  have G := good_of (P := Try.prog) glB_ro (l := [(77, prodS), (74, sumS), (73, wordS)]) (by simp only [List.forall_mem_cons]; exact ⟨prod_sound, sum_sound, word_sound, by simp⟩)
  refine soundFn_of_W G Try.func53 (by decide) rfl (by decide) ?_
  intro ins ret outs h
  unfold parseS at h
  dsimp only at h
  split at h
  rotate_left
  · cases h
  rename_i s
  obtain ⟨hlim, h'⟩ := chk_some h
  clear h
  cases h'
  refine ⟨by show 1 ≤ 68; decide, fun w0 ext av => ?_⟩
  rw [Try.ntmps53, st0_eq]
  have hH : headOK s = (decide (1 ≤ s.length) && (decide (s.length ≤ 78) && !(decide (1 < s.length) && decide (s.getD 0 0 = 48#8)))) := rfl
  refine W.seq ?_
  refine W.mid (sL [(0, .s s), (2, .p 2 0 0 0)] [(2, .agg 4 (.u 64 (zeros 64 4)))] 68) ?_ ?_
  · repeat' first
      | refine W.seq ?_ | (refine W.regS G ?_; dsimp only) | refine SW.nil ?_ | refine thenQ_normal ?_ | refine W.skip ?_ | refine W.exit ?_ | refine thenQ_exit ?_ | refine inBlockQ_exit ?_ | refine inBlockQ_normal ?_ | refine W.block ?_
      | (apply SW.toC; refine SWcall.go True.intro ?_) | (apply SW.toOp; refine SWop.go True.intro ?_) | (apply SW.toCG; first | refine SWcall.yes True.intro ?_ | refine SWcall.no True.intro ?_) | (apply SW.toG; first | refine SWop.yes True.intro ?_ | refine SWop.no True.intro ?_)
    refine Imp.le ?_
    exact sL_leZ True.intro
  refine W.seq ?_
  refine W.midI (ι := {u : Unit // headOK s = true}) (fun _ => sL [(0, .s s), (2, .p 2 0 0 0)] [(2, .agg 4 (.u 64 (zeros 64 4)))] 68) ?_ ?_
  · by_cases h0 : s.length = 0
    · have q0 := eq_true (show (s.length : Int) = 0 by omega)
      have hb : headOK s = false := by rw [hH, decide_eq_false (by omega)]; rfl
      obtain ⟨p1, p2⟩ := par_bad (ok_head hb)
      rw [p1, p2]
      repeat' first
        | refine W.seq ?_ | (refine W.regS G ?_; dsimp only) | refine SW.nil ?_ | refine thenQ_normal ?_ | refine W.skip ?_ | refine W.exit ?_ | refine thenQ_exit ?_ | refine inBlockQ_exit ?_ | refine inBlockQ_normal ?_ | refine W.block ?_
        | (apply SW.toC; refine SWcall.go q0 ?_) | (apply SW.toOp; refine SWop.go q0 ?_) | (apply SW.toCG; first | refine SWcall.yes q0 ?_ | refine SWcall.no q0 ?_) | (apply SW.toG; first | refine SWop.yes q0 ?_ | refine SWop.no q0 ?_)
      refine W.condZ G q0 ?_ ?_
      all_goals intro hcc
      rotate_left
      · exact absurd hcc (by decide)
      clear hcc
      repeat' first
        | refine W.seq ?_ | (refine W.regS G ?_; dsimp only) | refine SW.nil ?_ | refine thenQ_normal ?_ | refine W.skip ?_ | refine W.exit ?_ | refine thenQ_exit ?_ | refine inBlockQ_exit ?_ | refine inBlockQ_normal ?_ | refine W.block ?_
        | (apply SW.toC; refine SWcall.go q0 ?_) | (apply SW.toOp; refine SWop.go q0 ?_) | (apply SW.toCG; first | refine SWcall.yes q0 ?_ | refine SWcall.no q0 ?_) | (apply SW.toG; first | refine SWop.yes q0 ?_ | refine SWop.no q0 ?_)
      refine W.ret ?_
      repeat' first
        | refine thenQ_ret ?_
        | refine inBlockQ_ret ?_
      refine fin2Z q0 ?_ ?_
      · exact leV_refl
      · exact leV_refl
    have q0 := eq_false (show ¬ (s.length : Int) = 0 by omega)
    by_cases h1 : 78 < s.length
    · have q1 := eq_true (show (78 : Int) < (s.length : Int) by omega)
      have hb : headOK s = false := by rw [hH, decide_eq_false (show ¬ s.length ≤ 78 by omega)]; cases decide (1 ≤ s.length) <;> rfl
      obtain ⟨p1, p2⟩ := par_bad (ok_head hb)
      rw [p1, p2]
      repeat' first
        | refine W.seq ?_ | (refine W.regS G ?_; dsimp only) | refine SW.nil ?_ | refine thenQ_normal ?_ | refine W.skip ?_ | refine W.exit ?_ | refine thenQ_exit ?_ | refine inBlockQ_exit ?_ | refine inBlockQ_normal ?_ | refine W.block ?_
        | (apply SW.toC; refine SWcall.go (And.intro q0 q1) ?_) | (apply SW.toOp; refine SWop.go (And.intro q0 q1) ?_) | (apply SW.toCG; first | refine SWcall.yes (And.intro q0 q1) ?_ | refine SWcall.no (And.intro q0 q1) ?_) | (apply SW.toG; first | refine SWop.yes (And.intro q0 q1) ?_ | refine SWop.no (And.intro q0 q1) ?_)
      refine W.condZ G (And.intro q0 q1) ?_ ?_
      all_goals intro hcc
      rotate_left
      · exact absurd hcc (by decide)
      clear hcc
      repeat' first
        | refine W.seq ?_ | (refine W.regS G ?_; dsimp only) | refine SW.nil ?_ | refine thenQ_normal ?_ | refine W.skip ?_ | refine W.exit ?_ | refine thenQ_exit ?_ | refine inBlockQ_exit ?_ | refine inBlockQ_normal ?_ | refine W.block ?_
        | (apply SW.toC; refine SWcall.go (And.intro q0 q1) ?_) | (apply SW.toOp; refine SWop.go (And.intro q0 q1) ?_) | (apply SW.toCG; first | refine SWcall.yes (And.intro q0 q1) ?_ | refine SWcall.no (And.intro q0 q1) ?_) | (apply SW.toG; first | refine SWop.yes (And.intro q0 q1) ?_ | refine SWop.no (And.intro q0 q1) ?_)
      refine W.ret ?_
      repeat' first
        | refine thenQ_ret ?_
        | refine inBlockQ_ret ?_
      refine fin2Z (And.intro q0 q1) ?_ ?_
      · exact leV_refl
      · exact leV_refl
    have q1 := eq_false (show ¬ (78 : Int) < (s.length : Int) by omega)
    by_cases h2 : 1 < s.length
    · have q2 := eq_true (show (1 : Int) < (s.length : Int) by omega)
      by_cases h3 : s.getD 0 0 = 48#8
      · have q3 := eq_true h3
        have hb : headOK s = false := by
          rw [hH, decide_eq_true h2, decide_eq_true h3]
          cases decide (1 ≤ s.length) <;> cases decide (s.length ≤ 78) <;> rfl
        obtain ⟨p1, p2⟩ := par_bad (ok_head hb)
        rw [p1, p2]
        repeat' first
          | refine W.seq ?_ | (refine W.regS G ?_; dsimp only) | refine SW.nil ?_ | refine thenQ_normal ?_ | refine W.skip ?_ | refine W.exit ?_ | refine thenQ_exit ?_ | refine inBlockQ_exit ?_ | refine inBlockQ_normal ?_ | refine W.block ?_
          | (apply SW.toC; refine SWcall.go (And.intro q0 (And.intro q1 (And.intro q2 q3))) ?_) | (apply SW.toOp; refine SWop.go (And.intro q0 (And.intro q1 (And.intro q2 q3))) ?_) | (apply SW.toCG; first | refine SWcall.yes (And.intro q0 (And.intro q1 (And.intro q2 q3))) ?_ | refine SWcall.no (And.intro q0 (And.intro q1 (And.intro q2 q3))) ?_) | (apply SW.toG; first | refine SWop.yes (And.intro q0 (And.intro q1 (And.intro q2 q3))) ?_ | refine SWop.no (And.intro q0 (And.intro q1 (And.intro q2 q3))) ?_)
        refine W.condZ G (And.intro q0 (And.intro q1 (And.intro q2 q3))) ?_ ?_
        all_goals intro hcc
        rotate_left
        · exact absurd hcc (by decide)
        clear hcc
        repeat' first
          | refine W.seq ?_ | (refine W.regS G ?_; dsimp only) | refine SW.nil ?_ | refine thenQ_normal ?_ | refine W.skip ?_ | refine W.exit ?_ | refine thenQ_exit ?_ | refine inBlockQ_exit ?_ | refine inBlockQ_normal ?_ | refine W.block ?_
          | (apply SW.toC; refine SWcall.go (And.intro q0 (And.intro q1 (And.intro q2 q3))) ?_) | (apply SW.toOp; refine SWop.go (And.intro q0 (And.intro q1 (And.intro q2 q3))) ?_) | (apply SW.toCG; first | refine SWcall.yes (And.intro q0 (And.intro q1 (And.intro q2 q3))) ?_ | refine SWcall.no (And.intro q0 (And.intro q1 (And.intro q2 q3))) ?_) | (apply SW.toG; first | refine SWop.yes (And.intro q0 (And.intro q1 (And.intro q2 q3))) ?_ | refine SWop.no (And.intro q0 (And.intro q1 (And.intro q2 q3))) ?_)
        refine W.ret ?_
        repeat' first
          | refine thenQ_ret ?_
          | refine inBlockQ_ret ?_
        refine fin2Z (And.intro q0 (And.intro q1 (And.intro q2 q3))) ?_ ?_
        · exact leV_refl
        · exact leV_refl
      · have q3 := eq_false h3
        have hg : headOK s = true := by
          rw [hH, decide_eq_true h2, decide_eq_false h3, decide_eq_true (by omega), decide_eq_true (by omega)]
          rfl
        repeat' first
          | refine W.seq ?_ | (refine W.regS G ?_; dsimp only) | refine SW.nil ?_ | refine thenQ_normal ?_ | refine W.skip ?_ | refine W.exit ?_ | refine thenQ_exit ?_ | refine inBlockQ_exit ?_ | refine inBlockQ_normal ?_ | refine W.block ?_
          | (apply SW.toC; refine SWcall.go (And.intro q0 (And.intro q1 (And.intro q2 q3))) ?_) | (apply SW.toOp; refine SWop.go (And.intro q0 (And.intro q1 (And.intro q2 q3))) ?_) | (apply SW.toCG; first | refine SWcall.yes (And.intro q0 (And.intro q1 (And.intro q2 q3))) ?_ | refine SWcall.no (And.intro q0 (And.intro q1 (And.intro q2 q3))) ?_) | (apply SW.toG; first | refine SWop.yes (And.intro q0 (And.intro q1 (And.intro q2 q3))) ?_ | refine SWop.no (And.intro q0 (And.intro q1 (And.intro q2 q3))) ?_)
        refine W.condZ G (And.intro q0 (And.intro q1 (And.intro q2 q3))) ?_ ?_
        all_goals intro hcc
        · exact absurd hcc (by decide)
        clear hcc
        repeat' first
          | refine W.seq ?_ | (refine W.regS G ?_; dsimp only) | refine SW.nil ?_ | refine thenQ_normal ?_ | refine W.skip ?_ | refine W.exit ?_ | refine thenQ_exit ?_ | refine inBlockQ_exit ?_ | refine inBlockQ_normal ?_ | refine W.block ?_
          | (apply SW.toC; refine SWcall.go (And.intro q0 (And.intro q1 (And.intro q2 q3))) ?_) | (apply SW.toOp; refine SWop.go (And.intro q0 (And.intro q1 (And.intro q2 q3))) ?_) | (apply SW.toCG; first | refine SWcall.yes (And.intro q0 (And.intro q1 (And.intro q2 q3))) ?_ | refine SWcall.no (And.intro q0 (And.intro q1 (And.intro q2 q3))) ?_) | (apply SW.toG; first | refine SWop.yes (And.intro q0 (And.intro q1 (And.intro q2 q3))) ?_ | refine SWop.no (And.intro q0 (And.intro q1 (And.intro q2 q3))) ?_)
        refine ⟨⟨(), hg⟩, Imp.le ?_⟩
        exact sL_leZ (And.intro q0 (And.intro q1 (And.intro q2 q3)))
    · have q2 := eq_false (show ¬ (1 : Int) < (s.length : Int) by omega)
      have hg : headOK s = true := by
        rw [hH, decide_eq_false h2, decide_eq_true (by omega), decide_eq_true (by omega)]
        rfl
      repeat' first
        | refine W.seq ?_ | (refine W.regS G ?_; dsimp only) | refine SW.nil ?_ | refine thenQ_normal ?_ | refine W.skip ?_ | refine W.exit ?_ | refine thenQ_exit ?_ | refine inBlockQ_exit ?_ | refine inBlockQ_normal ?_ | refine W.block ?_
        | (apply SW.toC; refine SWcall.go (And.intro q0 (And.intro q1 q2)) ?_) | (apply SW.toOp; refine SWop.go (And.intro q0 (And.intro q1 q2)) ?_) | (apply SW.toCG; first | refine SWcall.yes (And.intro q0 (And.intro q1 q2)) ?_ | refine SWcall.no (And.intro q0 (And.intro q1 q2)) ?_) | (apply SW.toG; first | refine SWop.yes (And.intro q0 (And.intro q1 q2)) ?_ | refine SWop.no (And.intro q0 (And.intro q1 q2)) ?_)
      refine W.condZ G (And.intro q0 (And.intro q1 q2)) ?_ ?_
      all_goals intro hcc
      · exact absurd hcc (by decide)
      clear hcc
      repeat' first
        | refine W.seq ?_ | (refine W.regS G ?_; dsimp only) | refine SW.nil ?_ | refine thenQ_normal ?_ | refine W.skip ?_ | refine W.exit ?_ | refine thenQ_exit ?_ | refine inBlockQ_exit ?_ | refine inBlockQ_normal ?_ | refine W.block ?_
        | (apply SW.toC; refine SWcall.go (And.intro q0 (And.intro q1 q2)) ?_) | (apply SW.toOp; refine SWop.go (And.intro q0 (And.intro q1 q2)) ?_) | (apply SW.toCG; first | refine SWcall.yes (And.intro q0 (And.intro q1 q2)) ?_ | refine SWcall.no (And.intro q0 (And.intro q1 q2)) ?_) | (apply SW.toG; first | refine SWop.yes (And.intro q0 (And.intro q1 q2)) ?_ | refine SWop.no (And.intro q0 (And.intro q1 q2)) ?_)
      refine ⟨⟨(), hg⟩, Imp.le ?_⟩
      exact sL_leZ (And.intro q0 (And.intro q1 q2))
  rintro ⟨_, hg⟩
  obtain ⟨n, hn⟩ : ∃ n, s.length = n := ⟨_, rfl⟩
  have hok : okF s = allD s n := by unfold okF; rw [hg, hn]; rfl
  have hn78 : n ≤ 78 := by
    rw [hH, Bool.and_eq_true, Bool.and_eq_true, decide_eq_true_eq, decide_eq_true_eq] at hg
    omega
  clear hlim hg hH
  refine W.seq ?_
  refine W.mid (sL [(0, .s s), (2, .p 2 0 0 0), (4, .sl true (.u 64 []))] [(2, .agg 4 (.u 64 (zeros 64 4)))] 68) ?_ ?_
  · skip
    repeat' first
      | refine W.seq ?_ | (refine W.regS G ?_; dsimp only) | refine SW.nil ?_ | refine thenQ_normal ?_ | refine W.skip ?_ | refine W.exit ?_ | refine thenQ_exit ?_ | refine inBlockQ_exit ?_ | refine inBlockQ_normal ?_ | refine W.block ?_
      | (apply SW.toC; refine SWcall.go hn ?_) | (apply SW.toOp; refine SWop.go hn ?_) | (apply SW.toCG; first | refine SWcall.yes hn ?_ | refine SWcall.no hn ?_) | (apply SW.toG; first | refine SWop.yes hn ?_ | refine SWop.no hn ?_)
    refine Imp.frz 26 (by decide) ?_
    exact sL_leZ hn
  refine W.seq ?_
  refine W.midI (ι := {u : Unit // allD s n = true}) (fun _ => sL [(0, .s s), (2, .p 2 0 0 0), (4, .sl true (.u 64 (dOf (2 * n) (dv s n))))] [(2, .agg 4 (.u 64 (zeros 64 4)))] 68) ?_ ?_
  · repeat' first
      | refine W.seq ?_ | (refine W.regS G ?_; dsimp only) | refine SW.nil ?_ | refine thenQ_normal ?_ | refine W.skip ?_ | refine W.exit ?_ | refine thenQ_exit ?_ | refine inBlockQ_exit ?_ | refine inBlockQ_normal ?_
      | (apply SW.toC; refine SWcall.go hn ?_) | (apply SW.toOp; refine SWop.go hn ?_) | (apply SW.toCG; first | refine SWcall.yes hn ?_ | refine SWcall.no hn ?_) | (apply SW.toG; first | refine SWop.yes hn ?_ | refine SWop.no hn ?_)
    refine W.block ?_
    refine W.loopI (ι := {i : Nat // i ≤ n ∧ allD s i = true}) (fun i => sL [(0, .s s), (2, .p 2 0 0 0), (4, .sl true (.u 64 (dOf (2 * i.1) (dv s i.1)))), (5, .i (i.1 : Int))] [(2, .agg 4 (.u 64 (zeros 64 4)))] 68) (fun i => n - i.1) ⟨0, Nat.zero_le _, rfl⟩ (Imp.le ?_) ?_
    · have z0 : dOf (2 * 0) (dv s 0) = [] := rfl
      exact sL_leZ (And.intro z0 hn)
    rintro ⟨i, hi, hal⟩
    repeat' first
      | refine W.seq ?_ | (refine W.regS G ?_; dsimp only) | refine SW.nil ?_ | refine thenQ_normal ?_ | refine W.skip ?_ | refine W.exit ?_ | refine thenQ_exit ?_ | refine inBlockQ_exit ?_ | refine inBlockQ_normal ?_ | refine W.block ?_
      | (apply SW.toC; refine SWcall.go hn ?_) | (apply SW.toOp; refine SWop.go hn ?_) | (apply SW.toCG; first | refine SWcall.yes hn ?_ | refine SWcall.no hn ?_) | (apply SW.toG; first | refine SWop.yes hn ?_ | refine SWop.no hn ?_)
    refine W.condZ G hn ?_ ?_
    all_goals intro ht
    · have ht' := of_decide_eq_true ht
      have hi2 : i < n := by omega
      have hAl : allD s (i + 1) = (allD s i && isD (s.getD i 0)) := rfl
      have hV : dv s (i + 1) = dv s i * 10 + ((s.getD i 0).toNat - 48) := rfl
      have hbad : isD (s.getD i 0) = false → okF s = false := fun h => by rw [hok]; exact allD_no h hi2
      generalize hx : s.getD i 0 = c at hAl hV hbad
      by_cases a1 : c < 48#8
      · have a2 : c.toNat < 48 := a1
        have q1 := eq_true a1
        obtain ⟨p1, p2⟩ := par_bad (hbad (by unfold isD; rw [decide_eq_false (show ¬ 48 ≤ c.toNat by omega)]; rfl))
        rw [p1, p2]
        repeat' first
          | refine W.seq ?_ | (refine W.regS G ?_; dsimp only) | refine SW.nil ?_ | refine thenQ_normal ?_ | refine W.skip ?_ | refine W.exit ?_ | refine thenQ_exit ?_ | refine inBlockQ_exit ?_ | refine inBlockQ_normal ?_ | refine W.block ?_
          | (apply SW.toC; refine SWcall.go (And.intro hn (And.intro hx q1)) ?_) | (apply SW.toOp; refine SWop.go (And.intro hn (And.intro hx q1)) ?_) | (apply SW.toCG; first | refine SWcall.yes (And.intro hn (And.intro hx q1)) ?_ | refine SWcall.no (And.intro hn (And.intro hx q1)) ?_) | (apply SW.toG; first | refine SWop.yes (And.intro hn (And.intro hx q1)) ?_ | refine SWop.no (And.intro hn (And.intro hx q1)) ?_)
        refine W.condZ G (And.intro hn (And.intro hx q1)) ?_ ?_
        all_goals intro hcc
        rotate_left
        · exact absurd hcc (by decide)
        clear hcc
        repeat' first
          | refine W.seq ?_ | (refine W.regS G ?_; dsimp only) | refine SW.nil ?_ | refine thenQ_normal ?_ | refine W.skip ?_ | refine W.exit ?_ | refine thenQ_exit ?_ | refine inBlockQ_exit ?_ | refine inBlockQ_normal ?_ | refine W.block ?_
          | (apply SW.toC; refine SWcall.go (And.intro hn (And.intro hx q1)) ?_) | (apply SW.toOp; refine SWop.go (And.intro hn (And.intro hx q1)) ?_) | (apply SW.toCG; first | refine SWcall.yes (And.intro hn (And.intro hx q1)) ?_ | refine SWcall.no (And.intro hn (And.intro hx q1)) ?_) | (apply SW.toG; first | refine SWop.yes (And.intro hn (And.intro hx q1)) ?_ | refine SWop.no (And.intro hn (And.intro hx q1)) ?_)
        refine W.ret ?_
        repeat' first
          | refine thenQ_ret ?_
          | refine inBlockQ_ret ?_
        refine fin2Z (And.intro hn (And.intro hx q1)) ?_ ?_
        · exact leV_refl
        · exact leV_refl
      have a2 : ¬ c.toNat < 48 := a1
      have q1 := eq_false a1
      by_cases b1 : 57#8 < c
      · have b2 : 57 < c.toNat := b1
        have q2 := eq_true b1
        obtain ⟨p1, p2⟩ := par_bad (hbad (by unfold isD; rw [decide_eq_false (show ¬ c.toNat ≤ 57 by omega)]; cases decide (48 ≤ c.toNat) <;> rfl))
        rw [p1, p2]
        repeat' first
          | refine W.seq ?_ | (refine W.regS G ?_; dsimp only) | refine SW.nil ?_ | refine thenQ_normal ?_ | refine W.skip ?_ | refine W.exit ?_ | refine thenQ_exit ?_ | refine inBlockQ_exit ?_ | refine inBlockQ_normal ?_ | refine W.block ?_
          | (apply SW.toC; refine SWcall.go (And.intro hn (And.intro hx (And.intro q1 q2))) ?_) | (apply SW.toOp; refine SWop.go (And.intro hn (And.intro hx (And.intro q1 q2))) ?_) | (apply SW.toCG; first | refine SWcall.yes (And.intro hn (And.intro hx (And.intro q1 q2))) ?_ | refine SWcall.no (And.intro hn (And.intro hx (And.intro q1 q2))) ?_) | (apply SW.toG; first | refine SWop.yes (And.intro hn (And.intro hx (And.intro q1 q2))) ?_ | refine SWop.no (And.intro hn (And.intro hx (And.intro q1 q2))) ?_)
        refine W.condZ G (And.intro hn (And.intro hx (And.intro q1 q2))) ?_ ?_
        all_goals intro hcc
        rotate_left
        · exact absurd hcc (by decide)
        clear hcc
        repeat' first
          | refine W.seq ?_ | (refine W.regS G ?_; dsimp only) | refine SW.nil ?_ | refine thenQ_normal ?_ | refine W.skip ?_ | refine W.exit ?_ | refine thenQ_exit ?_ | refine inBlockQ_exit ?_ | refine inBlockQ_normal ?_ | refine W.block ?_
          | (apply SW.toC; refine SWcall.go (And.intro hn (And.intro hx (And.intro q1 q2))) ?_) | (apply SW.toOp; refine SWop.go (And.intro hn (And.intro hx (And.intro q1 q2))) ?_) | (apply SW.toCG; first | refine SWcall.yes (And.intro hn (And.intro hx (And.intro q1 q2))) ?_ | refine SWcall.no (And.intro hn (And.intro hx (And.intro q1 q2))) ?_) | (apply SW.toG; first | refine SWop.yes (And.intro hn (And.intro hx (And.intro q1 q2))) ?_ | refine SWop.no (And.intro hn (And.intro hx (And.intro q1 q2))) ?_)
        refine W.ret ?_
        repeat' first
          | refine thenQ_ret ?_
          | refine inBlockQ_ret ?_
        refine fin2Z (And.intro hn (And.intro hx (And.intro q1 q2))) ?_ ?_
        · exact leV_refl
        · exact leV_refl
      have b2 : ¬ 57 < c.toNat := b1
      have q2 := eq_false b1
      have hal2 : allD s (i + 1) = true := by
        rw [hAl, hal]
        unfold isD
        rw [decide_eq_true (show 48 ≤ c.toNat by omega), decide_eq_true (show c.toNat ≤ 57 by omega)]
        rfl
      have hDl : dv s i < 65536 ^ (2 * i) := Nat.lt_of_lt_of_le (dv_lt hal) (pow10_le i)
      obtain ⟨D, hD⟩ : ∃ D, dv s i = D := ⟨_, rfl⟩
      rw [hD] at hV hDl ⊢
      have hxv : (BitVec.setWidth 64 (c - 48#8)).toNat = c.toNat - 48 := by
        rw [BitVec.toNat_setWidth, BitVec.toNat_sub]
        show (2 ^ 8 - 48 + c.toNat) % 2 ^ 8 % 2 ^ 64 = _
        omega
      obtain ⟨x, hxx⟩ : ∃ x, BitVec.setWidth 64 (c - 48#8) = x := ⟨_, rfl⟩
      rw [hxx] at hxv
      have h10 : D * 10 < 65536 ^ (2 * i + 1) := by
        rw [Nat.pow_succ]
        exact Nat.mul_lt_mul'' hDl (by decide)
      have f1 := prod10 hDl
      have f2 := sum1 (k := 2 * i + 1) (x := x) (by omega) h10 (by omega)
      rw [hxv, ← hV] at f2
      have e2 : 2 * (i + 1) = 2 * i + 1 + 1 := by omega
      have l1 : (dOf (2 * i) D).length = 2 * i := dOf_len _ _
      have l2 : (dOf (2 * i + 1) (D * 10)).length = 2 * i + 1 := dOf_len _ _
      repeat' first
        | refine W.seq ?_ | (refine W.regS G ?_; dsimp only) | refine SW.nil ?_ | refine thenQ_normal ?_ | refine W.skip ?_ | refine W.exit ?_ | refine thenQ_exit ?_ | refine inBlockQ_exit ?_ | refine inBlockQ_normal ?_ | refine W.block ?_
        | (apply SW.toC; refine SWcall.go (And.intro hn (And.intro hx (And.intro q1 (And.intro q2 (And.intro prodS.eq_1 (And.intro sumS.eq_1 (And.intro f1 (And.intro f2 (And.intro hxx (And.intro l1 l2)))))))))) ?_) | (apply SW.toOp; refine SWop.go (And.intro hn (And.intro hx (And.intro q1 (And.intro q2 (And.intro prodS.eq_1 (And.intro sumS.eq_1 (And.intro f1 (And.intro f2 (And.intro hxx (And.intro l1 l2)))))))))) ?_) | (apply SW.toCG; first | refine SWcall.yes (And.intro hn (And.intro hx (And.intro q1 (And.intro q2 (And.intro prodS.eq_1 (And.intro sumS.eq_1 (And.intro f1 (And.intro f2 (And.intro hxx (And.intro l1 l2)))))))))) ?_ | refine SWcall.no (And.intro hn (And.intro hx (And.intro q1 (And.intro q2 (And.intro prodS.eq_1 (And.intro sumS.eq_1 (And.intro f1 (And.intro f2 (And.intro hxx (And.intro l1 l2)))))))))) ?_) | (apply SW.toG; first | refine SWop.yes (And.intro hn (And.intro hx (And.intro q1 (And.intro q2 (And.intro prodS.eq_1 (And.intro sumS.eq_1 (And.intro f1 (And.intro f2 (And.intro hxx (And.intro l1 l2)))))))))) ?_ | refine SWop.no (And.intro hn (And.intro hx (And.intro q1 (And.intro q2 (And.intro prodS.eq_1 (And.intro sumS.eq_1 (And.intro f1 (And.intro f2 (And.intro hxx (And.intro l1 l2)))))))))) ?_)
      refine W.condZ G (And.intro hn (And.intro hx (And.intro q1 (And.intro q2 (And.intro prodS.eq_1 (And.intro sumS.eq_1 (And.intro f1 (And.intro f2 (And.intro hxx (And.intro l1 l2)))))))))) ?_ ?_
      all_goals intro hcc
      · exact absurd hcc (by decide)
      clear hcc
      repeat' first
        | refine W.seq ?_ | (refine W.regS G ?_; dsimp only) | refine SW.nil ?_ | refine thenQ_normal ?_ | refine W.skip ?_ | refine W.exit ?_ | refine thenQ_exit ?_ | refine inBlockQ_exit ?_ | refine inBlockQ_normal ?_
        | (apply SW.toC; refine SWcall.go (And.intro hn (And.intro hx (And.intro q1 (And.intro q2 (And.intro prodS.eq_1 (And.intro sumS.eq_1 (And.intro f1 (And.intro f2 (And.intro hxx (And.intro l1 l2)))))))))) ?_) | (apply SW.toOp; refine SWop.go (And.intro hn (And.intro hx (And.intro q1 (And.intro q2 (And.intro prodS.eq_1 (And.intro sumS.eq_1 (And.intro f1 (And.intro f2 (And.intro hxx (And.intro l1 l2)))))))))) ?_) | (apply SW.toCG; first | refine SWcall.yes (And.intro hn (And.intro hx (And.intro q1 (And.intro q2 (And.intro prodS.eq_1 (And.intro sumS.eq_1 (And.intro f1 (And.intro f2 (And.intro hxx (And.intro l1 l2)))))))))) ?_ | refine SWcall.no (And.intro hn (And.intro hx (And.intro q1 (And.intro q2 (And.intro prodS.eq_1 (And.intro sumS.eq_1 (And.intro f1 (And.intro f2 (And.intro hxx (And.intro l1 l2)))))))))) ?_) | (apply SW.toG; first | refine SWop.yes (And.intro hn (And.intro hx (And.intro q1 (And.intro q2 (And.intro prodS.eq_1 (And.intro sumS.eq_1 (And.intro f1 (And.intro f2 (And.intro hxx (And.intro l1 l2)))))))))) ?_ | refine SWop.no (And.intro hn (And.intro hx (And.intro q1 (And.intro q2 (And.intro prodS.eq_1 (And.intro sumS.eq_1 (And.intro f1 (And.intro f2 (And.intro hxx (And.intro l1 l2)))))))))) ?_)
      refine W.drawS G [[], [], [0, 1], [], [], [3, 4], [5, 3, 4], [6, 5, 3, 4], [7, 6, 5, 3, 4], [2, 0, 1, 8, 7, 6, 5, 3, 4], [9, 2, 0, 1, 8, 7, 6, 5, 3, 4]] hmix ?_
      dsimp only
      repeat' first
        | (apply DW.nil; (focus (decide +kernel)))
        | (apply DW.toC; refine DWcall.go (And.intro hn (And.intro hx (And.intro q1 (And.intro q2 (And.intro prodS.eq_1 (And.intro sumS.eq_1 (And.intro f1 (And.intro f2 (And.intro hxx (And.intro l1 l2)))))))))) ?_) | (apply DW.toOp; refine DWop.go (And.intro hn (And.intro hx (And.intro q1 (And.intro q2 (And.intro prodS.eq_1 (And.intro sumS.eq_1 (And.intro f1 (And.intro f2 (And.intro hxx (And.intro l1 l2)))))))))) ?_) | (apply DW.toCG; first | refine DWcall.yes (And.intro hn (And.intro hx (And.intro q1 (And.intro q2 (And.intro prodS.eq_1 (And.intro sumS.eq_1 (And.intro f1 (And.intro f2 (And.intro hxx (And.intro l1 l2)))))))))) ?_ | refine DWcall.no (And.intro hn (And.intro hx (And.intro q1 (And.intro q2 (And.intro prodS.eq_1 (And.intro sumS.eq_1 (And.intro f1 (And.intro f2 (And.intro hxx (And.intro l1 l2)))))))))) ?_) | (apply DW.toG; first | refine DWop.yes (And.intro hn (And.intro hx (And.intro q1 (And.intro q2 (And.intro prodS.eq_1 (And.intro sumS.eq_1 (And.intro f1 (And.intro f2 (And.intro hxx (And.intro l1 l2)))))))))) ?_ | refine DWop.no (And.intro hn (And.intro hx (And.intro q1 (And.intro q2 (And.intro prodS.eq_1 (And.intro sumS.eq_1 (And.intro f1 (And.intro f2 (And.intro hxx (And.intro l1 l2)))))))))) ?_)
      repeat' first
        | refine W.seq ?_ | (refine W.regS G ?_; dsimp only) | refine SW.nil ?_ | refine thenQ_normal ?_ | refine W.skip ?_ | refine W.exit ?_ | refine thenQ_exit ?_ | refine inBlockQ_exit ?_ | refine inBlockQ_normal ?_ | refine W.block ?_
        | (apply SW.toC; refine SWcall.go (And.intro hn (And.intro hx (And.intro q1 (And.intro q2 (And.intro prodS.eq_1 (And.intro sumS.eq_1 (And.intro f1 (And.intro f2 (And.intro hxx (And.intro l1 l2)))))))))) ?_) | (apply SW.toOp; refine SWop.go (And.intro hn (And.intro hx (And.intro q1 (And.intro q2 (And.intro prodS.eq_1 (And.intro sumS.eq_1 (And.intro f1 (And.intro f2 (And.intro hxx (And.intro l1 l2)))))))))) ?_) | (apply SW.toCG; first | refine SWcall.yes (And.intro hn (And.intro hx (And.intro q1 (And.intro q2 (And.intro prodS.eq_1 (And.intro sumS.eq_1 (And.intro f1 (And.intro f2 (And.intro hxx (And.intro l1 l2)))))))))) ?_ | refine SWcall.no (And.intro hn (And.intro hx (And.intro q1 (And.intro q2 (And.intro prodS.eq_1 (And.intro sumS.eq_1 (And.intro f1 (And.intro f2 (And.intro hxx (And.intro l1 l2)))))))))) ?_) | (apply SW.toG; first | refine SWop.yes (And.intro hn (And.intro hx (And.intro q1 (And.intro q2 (And.intro prodS.eq_1 (And.intro sumS.eq_1 (And.intro f1 (And.intro f2 (And.intro hxx (And.intro l1 l2)))))))))) ?_ | refine SWop.no (And.intro hn (And.intro hx (And.intro q1 (And.intro q2 (And.intro prodS.eq_1 (And.intro sumS.eq_1 (And.intro f1 (And.intro f2 (And.intro hxx (And.intro l1 l2)))))))))) ?_)
      refine ⟨⟨i + 1, by omega, hal2⟩, Imp.le ?_, by show n - (i + 1) < n - i; omega⟩
      exact sL_leZ (And.intro e2 (And.intro hn (And.intro hx (And.intro q1 (And.intro q2 (And.intro prodS.eq_1 (And.intro sumS.eq_1 (And.intro f1 (And.intro f2 (And.intro hxx (And.intro l1 l2)))))))))))
    have ht' := of_decide_eq_false ht
    obtain rfl : i = n := by omega
    repeat' first
      | refine W.seq ?_ | (refine W.regS G ?_; dsimp only) | refine SW.nil ?_ | refine thenQ_normal ?_ | refine W.skip ?_ | refine W.exit ?_ | refine thenQ_exit ?_ | refine inBlockQ_exit ?_ | refine inBlockQ_normal ?_ | refine W.block ?_
      | (apply SW.toC; refine SWcall.go hn ?_) | (apply SW.toOp; refine SWop.go hn ?_) | (apply SW.toCG; first | refine SWcall.yes hn ?_ | refine SWcall.no hn ?_) | (apply SW.toG; first | refine SWop.yes hn ?_ | refine SWop.no hn ?_)
    refine ⟨⟨(), hal⟩, Imp.le ?_⟩
    exact sL_leZ hn
  rintro ⟨_, hal⟩
  have hVl : dv s n < 65536 ^ (2 * n) := Nat.lt_of_lt_of_le (dv_lt hal) (pow10_le n)
  have hok2 : okF s = true := by rw [hok]; exact hal
  have hW : parW s = if B256 ≤ dv s n then zeros 64 4 else wOf (dv s n) := by unfold parW; rw [hok2, if_pos rfl, hn]
  have hE : parE s = if B256 ≤ dv s n then 2 else 0 := by unfold parE; rw [hok2, if_pos rfl, hn]
  generalize dv s n = U at hVl hW hE ⊢
  obtain ⟨m, hm⟩ : ∃ m, 2 * n = m := ⟨_, rfl⟩
  rw [hm] at hVl ⊢
  have hm156 : m ≤ 156 := by omega
  have ld : (dOf m U).length = m := dOf_len _ _
  have od := dOf_ok m U
  have vd := dOf_val' hVl
  have hB16 : B256 = 65536 ^ 16 := by decide
  refine W.seq ?_
  refine W.midI (ι := {u : Unit // U < B256}) (fun _ => sL [(2, .p 2 0 0 0), (4, .sl true (.u 64 (dOf m U)))] [(2, .agg 4 (.u 64 (zeros 64 4)))] 68) ?_ ?_
  · repeat' first
      | refine W.seq ?_ | (refine W.regS G ?_; dsimp only) | refine SW.nil ?_ | refine thenQ_normal ?_ | refine W.skip ?_ | refine W.exit ?_ | refine thenQ_exit ?_ | refine inBlockQ_exit ?_ | refine inBlockQ_normal ?_
      | (apply SW.toC; refine SWcall.go ld ?_) | (apply SW.toOp; refine SWop.go ld ?_) | (apply SW.toCG; first | refine SWcall.yes ld ?_ | refine SWcall.no ld ?_) | (apply SW.toG; first | refine SWop.yes ld ?_ | refine SWop.no ld ?_)
    refine W.block ?_
    refine W.loopI (ι := {i : Nat // 16 ≤ i ∧ ∀ j, 16 ≤ j → j < i → (dOf m U).getD j 0 = 0}) (fun i => sL [(2, .p 2 0 0 0), (4, .sl true (.u 64 (dOf m U))), (6, .i (i.1 : Int))] [(2, .agg 4 (.u 64 (zeros 64 4)))] 68) (fun i => m - i.1) ⟨16, Nat.le_refl _, fun j h1 h2 => absurd h2 (by omega)⟩ (Imp.le ?_) ?_
    · exact sL_leZ ld
    rintro ⟨i, hi, hz⟩
    repeat' first
      | refine W.seq ?_ | (refine W.regS G ?_; dsimp only) | refine SW.nil ?_ | refine thenQ_normal ?_ | refine W.skip ?_ | refine W.exit ?_ | refine thenQ_exit ?_ | refine inBlockQ_exit ?_ | refine inBlockQ_normal ?_ | refine W.block ?_
      | (apply SW.toC; refine SWcall.go ld ?_) | (apply SW.toOp; refine SWop.go ld ?_) | (apply SW.toCG; first | refine SWcall.yes ld ?_ | refine SWcall.no ld ?_) | (apply SW.toG; first | refine SWop.yes ld ?_ | refine SWop.no ld ?_)
    refine W.condZ G ld ?_ ?_
    all_goals intro ht
    · have ht' := of_decide_eq_true ht
      have him : i < m := by omega
      have hnum := dOf_num (v := U) him
      generalize hx : (dOf m U).getD i 0 = x at hnum
      by_cases h0 : x = 0#64
      · have q := eq_true h0
        repeat' first
          | refine W.seq ?_ | (refine W.regS G ?_; dsimp only) | refine SW.nil ?_ | refine thenQ_normal ?_ | refine W.skip ?_ | refine W.exit ?_ | refine thenQ_exit ?_ | refine inBlockQ_exit ?_ | refine inBlockQ_normal ?_ | refine W.block ?_
          | (apply SW.toC; refine SWcall.go (And.intro ld (And.intro hx q)) ?_) | (apply SW.toOp; refine SWop.go (And.intro ld (And.intro hx q)) ?_) | (apply SW.toCG; first | refine SWcall.yes (And.intro ld (And.intro hx q)) ?_ | refine SWcall.no (And.intro ld (And.intro hx q)) ?_) | (apply SW.toG; first | refine SWop.yes (And.intro ld (And.intro hx q)) ?_ | refine SWop.no (And.intro ld (And.intro hx q)) ?_)
        refine W.condZ G (And.intro ld (And.intro hx q)) ?_ ?_
        all_goals intro hcc
        · exact absurd hcc (by decide)
        clear hcc
        repeat' first
          | refine W.seq ?_ | (refine W.regS G ?_; dsimp only) | refine SW.nil ?_ | refine thenQ_normal ?_ | refine W.skip ?_ | refine W.exit ?_ | refine thenQ_exit ?_ | refine inBlockQ_exit ?_ | refine inBlockQ_normal ?_ | refine W.block ?_
          | (apply SW.toC; refine SWcall.go (And.intro ld (And.intro hx q)) ?_) | (apply SW.toOp; refine SWop.go (And.intro ld (And.intro hx q)) ?_) | (apply SW.toCG; first | refine SWcall.yes (And.intro ld (And.intro hx q)) ?_ | refine SWcall.no (And.intro ld (And.intro hx q)) ?_) | (apply SW.toG; first | refine SWop.yes (And.intro ld (And.intro hx q)) ?_ | refine SWop.no (And.intro ld (And.intro hx q)) ?_)
        refine ⟨⟨i + 1, by omega, ?_⟩, Imp.le ?_, by show m - (i + 1) < m - i; omega⟩
        · intro j h1 h2
          by_cases hj : j = i
          · rw [hj, hx, h0]
            rfl
          · exact hz j h1 (by omega)
        exact sL_leZ (And.intro ld (And.intro hx q))
      · have q := eq_false h0
        have hbig : B256 ≤ U := by
          apply Decidable.byContradiction
          intro hno
          refine h0 (BitVec.eq_of_toNat_eq ?_)
          rw [hnum, Nat.div_eq_of_lt]
          · rfl
          · refine Nat.lt_of_lt_of_le (Nat.lt_of_not_le hno) ?_
            rw [hB16]
            exact Nat.pow_le_pow_right (by decide) hi
        rw [if_pos hbig] at hW hE
        rw [hW, hE]
        repeat' first
          | refine W.seq ?_ | (refine W.regS G ?_; dsimp only) | refine SW.nil ?_ | refine thenQ_normal ?_ | refine W.skip ?_ | refine W.exit ?_ | refine thenQ_exit ?_ | refine inBlockQ_exit ?_ | refine inBlockQ_normal ?_ | refine W.block ?_
          | (apply SW.toC; refine SWcall.go (And.intro ld (And.intro hx q)) ?_) | (apply SW.toOp; refine SWop.go (And.intro ld (And.intro hx q)) ?_) | (apply SW.toCG; first | refine SWcall.yes (And.intro ld (And.intro hx q)) ?_ | refine SWcall.no (And.intro ld (And.intro hx q)) ?_) | (apply SW.toG; first | refine SWop.yes (And.intro ld (And.intro hx q)) ?_ | refine SWop.no (And.intro ld (And.intro hx q)) ?_)
        refine W.condZ G (And.intro ld (And.intro hx q)) ?_ ?_
        all_goals intro hcc
        rotate_left
        · exact absurd hcc (by decide)
        clear hcc
        repeat' first
          | refine W.seq ?_ | (refine W.regS G ?_; dsimp only) | refine SW.nil ?_ | refine thenQ_normal ?_ | refine W.skip ?_ | refine W.exit ?_ | refine thenQ_exit ?_ | refine inBlockQ_exit ?_ | refine inBlockQ_normal ?_ | refine W.block ?_
          | (apply SW.toC; refine SWcall.go (And.intro ld (And.intro hx q)) ?_) | (apply SW.toOp; refine SWop.go (And.intro ld (And.intro hx q)) ?_) | (apply SW.toCG; first | refine SWcall.yes (And.intro ld (And.intro hx q)) ?_ | refine SWcall.no (And.intro ld (And.intro hx q)) ?_) | (apply SW.toG; first | refine SWop.yes (And.intro ld (And.intro hx q)) ?_ | refine SWop.no (And.intro ld (And.intro hx q)) ?_)
        refine W.ret ?_
        repeat' first
          | refine thenQ_ret ?_
          | refine inBlockQ_ret ?_
        refine fin2Z (And.intro ld (And.intro hx q)) ?_ ?_
        · exact leV_refl
        · exact leV_refl
    have ht' := of_decide_eq_false ht
    have hmi : m ≤ i := by omega
    have hlt : U < B256 := by
      rw [hB16]
      by_cases h16 : m ≤ 16
      · exact Nat.lt_of_lt_of_le hVl (Nat.pow_le_pow_right (by decide) h16)
      · have hmore := dvk_more (l := dOf m U) (k := 16) (m - 16) fun j hj => by
          by_cases hjm : j < m
          · exact hz j hj (by omega)
          · exact getD_off _ _ _ (by rw [ld]; omega)
        rw [show 16 + (m - 16) = m from by omega, vd] at hmore
        rw [hmore]
        exact dvk_lt od 16
    repeat' first
      | refine W.seq ?_ | (refine W.regS G ?_; dsimp only) | refine SW.nil ?_ | refine thenQ_normal ?_ | refine W.skip ?_ | refine W.exit ?_ | refine thenQ_exit ?_ | refine inBlockQ_exit ?_ | refine inBlockQ_normal ?_ | refine W.block ?_
      | (apply SW.toC; refine SWcall.go ld ?_) | (apply SW.toOp; refine SWop.go ld ?_) | (apply SW.toCG; first | refine SWcall.yes ld ?_ | refine SWcall.no ld ?_) | (apply SW.toG; first | refine SWop.yes ld ?_ | refine SWop.no ld ?_)
    refine ⟨⟨(), hlt⟩, Imp.le ?_⟩
    exact sL_leZ ld
  rintro ⟨_, hlt⟩
  rw [if_neg (by omega)] at hW hE
  rw [hW, hE]
  have hw := wordF_eq od
  rw [ld, vd] at hw
  rw [← hw]
  repeat' first
    | refine W.seq ?_ | (refine W.regS G ?_; dsimp only) | refine SW.nil ?_ | refine thenQ_normal ?_ | refine W.skip ?_ | refine W.exit ?_ | refine thenQ_exit ?_ | refine inBlockQ_exit ?_ | refine inBlockQ_normal ?_ | refine W.block ?_
    | (apply SW.toC; refine SWcall.go (And.intro wordS.eq_1 ld) ?_) | (apply SW.toOp; refine SWop.go (And.intro wordS.eq_1 ld) ?_) | (apply SW.toCG; first | refine SWcall.yes (And.intro wordS.eq_1 ld) ?_ | refine SWcall.no (And.intro wordS.eq_1 ld) ?_) | (apply SW.toG; first | refine SWop.yes (And.intro wordS.eq_1 ld) ?_ | refine SWop.no (And.intro wordS.eq_1 ld) ?_)
  refine W.ret ?_
  repeat' first
    | refine thenQ_ret ?_
    | refine inBlockQ_ret ?_
  refine fin2Z (And.intro wordS.eq_1 ld) ?_ ?_
  · exact leV_refl
  · exact leV_refl
end Go.Vm.C01

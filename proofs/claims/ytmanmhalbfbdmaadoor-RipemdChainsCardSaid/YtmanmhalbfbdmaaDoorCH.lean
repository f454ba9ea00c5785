/- What some functions of the program compute, walked through once. -/
import Derived.Test.YtmanmhalbfbdmaaDoorCG
namespace Go.Vm.C05
open Go Go.Proofs
set_option linter.unusedVariables false
set_option linter.unusedSimpArgs false
set_option maxRecDepth 100000
set_option maxHeartbeats 8000000

/-! ### the chain of blocks -/
def bxn (y : List (BitVec 8)) : List (BitVec 8) := bx y (min y.length 64)
theorem bxn_len (y : List (BitVec 8)) : (bxn y).length = 64 := bx_len _ _
noncomputable def chn (ys : List Bytes) (k : Nat) : List (BitVec 32) × List (BitVec 8) := itN (fun i s => (takenF s.1 (bxn (ys.getD i [])), s.2 ++ bxn (ys.getD i []))) k (begunB, [])
theorem chn_len (ys : List Bytes) (k : Nat) : (chn ys k).2.length = 64 * k := by
  induction k with
  | zero => rfl
  | succ k ih =>
    have e : chn ys (k + 1) = (takenF (chn ys k).1 (bxn (ys.getD k [])), (chn ys k).2 ++ bxn (ys.getD k [])) := itN_succ _ _ _
    rw [e]
    dsimp only
    rw [List.length_append, ih, bxn_len]
    omega
theorem chn_hJ (ys : List Bytes) (k : Nat) : hJ (chn ys k).2 k begunB = (chn ys k).1 := by
  induction k with
  | zero => rw [hJ_zero]; rfl
  | succ k ih =>
    have e : chn ys (k + 1) = (takenF (chn ys k).1 (bxn (ys.getD k [])), (chn ys k).2 ++ bxn (ys.getD k [])) := itN_succ _ _ _
    have l := chn_len ys k
    have lb := bxn_len (ys.getD k [])
    rw [e]
    generalize chn ys k = s at ih l
    generalize bxn (ys.getD k []) = x at lb
    obtain ⟨h, all⟩ := s
    dsimp only at ih l ⊢
    have e2 : hJ (all ++ x) (k + 1) begunB = takenF (hJ (all ++ x) k begunB) (subL (all ++ x) (64 * k) 64) := itN_succ _ _ _
    have e3 : hJ (all ++ x) k begunB = hJ all k begunB := itN_congr k fun i s hi => by
      congr 1
      unfold subL
      rw [List.drop_append_of_le_length (by omega), List.take_append_of_le_length (by rw [List.length_drop]; omega)]
    have e4 : subL (all ++ x) (64 * k) 64 = x := by
      unfold subL
      rw [← l, List.drop_left, List.take_of_length_le (by omega)]
    rw [e2, e3, e4, ih]
def endF (L : Nat) : List (BitVec 8) := (((zeros 8 64).set 0 128#8).set 57 (BitVec.ofInt 8 ((L : Int) / 32))).set 56 (BitVec.ofInt 8 ((L : Int) * 8))
theorem end_eq : ∀ n, n < 7 → subL (cF [] (BitVec.ofInt 64 (8 * ((64 * n : Nat) : Int))) 64 8) 0 64 = endF (64 * n) := by decide +kernel
theorem chain_eq (ys : List Bytes) (n : Nat) (hn : n < 7) : sumF (chn ys n).2 = oF (takenF (chn ys n).1 (endF (64 * n))) 20 := by
  have l := chn_len ys n
  have hJe := chn_hJ ys n
  generalize chn ys n = s at l hJe
  obtain ⟨h, all⟩ := s
  dsimp only at l hJe ⊢
  have d : all.drop (64 * n) = [] := List.drop_eq_nil_of_le (by omega)
  have hs : szF 0 = 64 := rfl
  unfold sumF
  rw [l, show 64 * n / 64 = n by omega, show 64 * n % 64 = 0 by omega, hs, d, hJe]
  have e1 : ∀ c, hJ c (64 / 64) h = takenF h (subL c 0 64) := fun c => rfl
  rw [e1, end_eq n hn]
theorem oF_at (h : List (BitVec 32)) (k i : Nat) (hk : k ≤ 20) (hi : i < k) : (oF h k).length = 20 ∧ (oF h k).getD i 0 = BitVec.setWidth 8 (h.getD (i / 4) 0 >>> (8 * (i % 4))) := by
  have hlen : ∀ k, (oF h k).length = 20 := fun k => itN_inv (p := fun (t : List (BitVec 8)) => t.length = 20) (fun _ _ h => by simpa using h) k rfl
  refine ⟨hlen k, ?_⟩
  induction k with
  | zero => omega
  | succ k ih =>
    have e : oF h (k + 1) = (oF h k).set k (BitVec.setWidth 8 (h.getD (k / 4) 0 >>> (8 * (k % 4)))) := itN_succ _ _ _
    have := hlen k
    rw [e]
    by_cases hh : k = i
    · subst hh; rw [getD_set_self _ _ _ _ (by omega)]
    · rw [getD_set_other _ _ _ _ _ hh]; exact ih (by omega) (by omega)

noncomputable def chainsS : FSpec := { run := fun ins => match ins with
  | [.sl false (.b false xs)] => chk (xs.length ≤ 140737488355328) (some (.b true, []))
  | _ => none }
theorem chains_sound : SoundFn Tryd.prog glB 5 chainsS.run := by
  have G := good_of (P := Tryd.prog) glB_ro (l := [(6, sumS), (8, liveS), (9, blockS)]) (by simp only [List.forall_mem_cons]; exact ⟨sum_sound, lives_sound, block_sound, by simp⟩)
  refine soundFn_of_W G Tryd.func5 (by decide) rfl (by decide) ?_
  intro ins ret outs h
  unfold chainsS at h
  dsimp only at h
  split at h
  rotate_left
  · cases h
  rename_i xs
  obtain ⟨hl, h'⟩ := chk_some h
  clear h
  cases h'
  refine ⟨by show 1 ≤ 88; decide, fun w0 ext av => ?_⟩
  rw [Tryd.ntmps5, st0_eq]
  have ly : (xs.take 6).length = min 6 xs.length := List.length_take ..
  repeat' first
    | refine W.seq ?_ | (refine W.regS G ?_; dsimp only) | refine SW.nil ?_ | refine thenQ_normal ?_ | refine W.skip ?_ | refine W.exit ?_ | refine thenQ_exit ?_ | refine inBlockQ_exit ?_ | refine inBlockQ_normal ?_
    | (apply SW.toC; refine SWcall.go True.intro ?_) | (apply SW.toOp; refine SWop.go True.intro ?_) | (apply SW.toCG; first | refine SWcall.yes True.intro ?_ | refine SWcall.no True.intro ?_) | (apply SW.toG; first | refine SWop.yes True.intro ?_ | refine SWop.no True.intro ?_)
  refine W.mid (sL [(0, .sl false (.b false (xs.take 6))), (2, .b false)] [] 88) ?_ ?_
  · refine W.condZ G True.intro ?_ ?_
    all_goals intro hc
    · have hc' := of_decide_eq_true hc
      have e1 : (6 = xs.length) = False := eq_false (by omega)
      have e2 : subL xs 0 6 = xs.take 6 := by simp [subL]
      have e3 : (0 + 6 ≤ xs.length) = True := eq_true (by omega)
      repeat' first
        | refine W.seq ?_ | (refine W.regS G ?_; dsimp only) | refine SW.nil ?_ | refine thenQ_normal ?_ | refine W.skip ?_ | refine W.exit ?_ | refine thenQ_exit ?_ | refine inBlockQ_exit ?_ | refine inBlockQ_normal ?_ | refine W.block ?_
        | (apply SW.toC; refine SWcall.go e1 ?_) | (apply SW.toOp; refine SWop.go e1 ?_) | (apply SW.toCG; first | refine SWcall.yes e1 ?_ | refine SWcall.no e1 ?_) | (apply SW.toG; first | refine SWop.yes e1 ?_ | refine SWop.no e1 ?_)
      refine Imp.le ?_
      exact sL_leZ (And.intro e1 (And.intro e2 e1))
    · have hc' := of_decide_eq_false hc
      have e : xs.take 6 = xs := List.take_of_length_le (by omega)
      repeat' first
        | refine W.seq ?_ | (refine W.regS G ?_; dsimp only) | refine SW.nil ?_ | refine thenQ_normal ?_ | refine W.skip ?_ | refine W.exit ?_ | refine thenQ_exit ?_ | refine inBlockQ_exit ?_ | refine inBlockQ_normal ?_ | refine W.block ?_
        | (apply SW.toC; refine SWcall.go True.intro ?_) | (apply SW.toOp; refine SWop.go True.intro ?_) | (apply SW.toCG; first | refine SWcall.yes True.intro ?_ | refine SWcall.no True.intro ?_) | (apply SW.toG; first | refine SWop.yes True.intro ?_ | refine SWop.no True.intro ?_)
      refine Imp.le ?_
      exact sL_leZ e
  generalize xs.take 6 = ys at ly ⊢
  have ly6 : ys.length ≤ 6 := by omega
  obtain ⟨n, hn⟩ : ∃ n, ys.length = n := ⟨_, rfl⟩
  have hbg : [1732584193#32, 4023233417#32, 2562383102#32, 271733878#32, 3285377520#32] = begunB := rfl
  have c0 : chn ys 0 = (begunB, []) := rfl
  repeat' first
    | refine W.seq ?_ | (refine W.regS G ?_; dsimp only) | refine SW.nil ?_ | refine thenQ_normal ?_ | refine W.skip ?_ | refine W.exit ?_ | refine thenQ_exit ?_ | refine inBlockQ_exit ?_ | refine inBlockQ_normal ?_
    | (apply SW.toC; refine SWcall.go hbg ?_) | (apply SW.toOp; refine SWop.go hbg ?_) | (apply SW.toCG; first | refine SWcall.yes hbg ?_ | refine SWcall.no hbg ?_) | (apply SW.toG; first | refine SWop.yes hbg ?_ | refine SWop.no hbg ?_)
  refine W.mid (sL [(2, .b false), (3, .p 3 0 0 0), (4, .gr 17 (64 * n))] [(3, .agg 5 (.u 32 (chn ys n).1)), (17, .row (.u 8 (chn ys n).2))] 88) ?_ ?_
  · repeat' first
      | refine W.seq ?_ | (refine W.regS G ?_; dsimp only) | refine SW.nil ?_ | refine thenQ_normal ?_ | refine W.skip ?_ | refine W.exit ?_ | refine thenQ_exit ?_ | refine inBlockQ_exit ?_ | refine inBlockQ_normal ?_ | refine W.block ?_
      | (apply SW.toC; refine SWcall.go hbg ?_) | (apply SW.toOp; refine SWop.go hbg ?_) | (apply SW.toCG; first | refine SWcall.yes hbg ?_ | refine SWcall.no hbg ?_) | (apply SW.toG; first | refine SWop.yes hbg ?_ | refine SWop.no hbg ?_)
    refine W.loopI (ι := {i : Nat // i ≤ n}) (fun i => sL [(0, .sl false (.b false ys)), (2, .b false), (3, .p 3 0 0 0), (4, .gr 17 (64 * i.1)), (5, .i i.1)] [(3, .agg 5 (.u 32 (chn ys i.1).1)), (17, .row (.u 8 (chn ys i.1).2))] 88) (fun i => n - i.1) ⟨0, Nat.zero_le _⟩ (Imp.le ?_) ?_
    · exact sL_leZ (And.intro c0 hbg)
    rintro ⟨i, hi⟩
    have e : chn ys (i + 1) = (takenF (chn ys i).1 (bxn (ys.getD i [])), (chn ys i).2 ++ bxn (ys.getD i [])) := itN_succ _ _ _
    have la := chn_len ys i
    have hend : i = n → chn ys n = chn ys i := by rintro rfl; rfl
    generalize chn ys i = s at e la hend ⊢
    obtain ⟨h, all⟩ := s
    dsimp only at e la hend ⊢
    repeat' first
      | refine W.seq ?_ | (refine W.regS G ?_; dsimp only) | refine SW.nil ?_ | refine thenQ_normal ?_ | refine W.skip ?_ | refine W.exit ?_ | refine thenQ_exit ?_ | refine inBlockQ_exit ?_ | refine inBlockQ_normal ?_ | refine W.block ?_
      | (apply SW.toC; refine SWcall.go hn ?_) | (apply SW.toOp; refine SWop.go hn ?_) | (apply SW.toCG; first | refine SWcall.yes hn ?_ | refine SWcall.no hn ?_) | (apply SW.toG; first | refine SWop.yes hn ?_ | refine SWop.no hn ?_)
    refine W.condZ G hn ?_ ?_
    all_goals intro ht
    · have ht' := of_decide_eq_true ht
      have hbx : bxn (ys.getD i []) = bx (ys.getD i []) (min (ys.getD i []).length 64) := rfl
      generalize hy : ys.getD i [] = y at e hbx
      obtain ⟨N, hN⟩ : ∃ N, min y.length 64 = N := ⟨_, rfl⟩
      rw [hN] at hbx
      rw [hbx] at e
      repeat' first
        | refine W.seq ?_ | (refine W.regS G ?_; dsimp only) | refine SW.nil ?_ | refine thenQ_normal ?_ | refine W.skip ?_ | refine W.exit ?_ | refine thenQ_exit ?_ | refine inBlockQ_exit ?_ | refine inBlockQ_normal ?_
        | (apply SW.toC; refine SWcall.go hn ?_) | (apply SW.toOp; refine SWop.go hn ?_) | (apply SW.toCG; first | refine SWcall.yes hn ?_ | refine SWcall.no hn ?_) | (apply SW.toG; first | refine SWop.yes hn ?_ | refine SWop.no hn ?_)
      refine W.block ?_
      repeat' first
        | refine W.seq ?_ | (refine W.regS G ?_; dsimp only) | refine SW.nil ?_ | refine thenQ_normal ?_ | refine W.skip ?_ | refine W.exit ?_ | refine thenQ_exit ?_ | refine inBlockQ_exit ?_ | refine inBlockQ_normal ?_
        | (apply SW.toC; refine SWcall.go hn ?_) | (apply SW.toOp; refine SWop.go hn ?_) | (apply SW.toCG; first | refine SWcall.yes hn ?_ | refine SWcall.no hn ?_) | (apply SW.toG; first | refine SWop.yes hn ?_ | refine SWop.no hn ?_)
      refine W.mid (sL [(0, .sl false (.b false ys)), (2, .b false), (3, .p 3 0 0 0), (4, .gr 17 (64 * i)), (5, .i i), (6, .p 6 0 0 0)] [(3, .agg 5 (.u 32 h)), (17, .row (.u 8 all)), (6, .agg 64 (.u 8 (bx y N)))] 88) ?_ ?_
      · repeat' first
          | refine W.seq ?_ | (refine W.regS G ?_; dsimp only) | refine SW.nil ?_ | refine thenQ_normal ?_ | refine W.skip ?_ | refine W.exit ?_ | refine thenQ_exit ?_ | refine inBlockQ_exit ?_ | refine inBlockQ_normal ?_ | refine W.block ?_
          | (apply SW.toC; refine SWcall.go hn ?_) | (apply SW.toOp; refine SWop.go hn ?_) | (apply SW.toCG; first | refine SWcall.yes hn ?_ | refine SWcall.no hn ?_) | (apply SW.toG; first | refine SWop.yes hn ?_ | refine SWop.no hn ?_)
        refine W.loopI (ι := {k : Nat // k ≤ N}) (fun k => sL [(0, .sl false (.b false ys)), (2, .b false), (3, .p 3 0 0 0), (4, .gr 17 (64 * i)), (5, .i i), (6, .p 6 0 0 0), (7, .i k.1)] [(3, .agg 5 (.u 32 h)), (17, .row (.u 8 all)), (6, .agg 64 (.u 8 (bx y k.1)))] 88) (fun k => N - k.1) ⟨0, Nat.zero_le _⟩ (Imp.le ?_) ?_
        · exact sL_leZ hn
        rintro ⟨k, hk⟩
        have e2 : bx y (k + 1) = (bx y k).set k (y.getD k 0) := itN_succ _ _ _
        have hend2 : k = N → bx y N = bx y k := by rintro rfl; rfl
        generalize bx y k = x at e2 hend2 ⊢
        by_cases h1 : k < y.length
        · have h1' : ((k : Int) < y.length) = True := eq_true (by omega)
          by_cases h2 : k < 64
          · have h2' : ((k : Int) < 64) = True := eq_true (by omega)
            repeat' first
              | refine W.seq ?_ | (refine W.regS G ?_; dsimp only) | refine SW.nil ?_ | refine thenQ_normal ?_ | refine W.skip ?_ | refine W.exit ?_ | refine thenQ_exit ?_ | refine inBlockQ_exit ?_ | refine inBlockQ_normal ?_ | refine W.block ?_
              | (apply SW.toC; refine SWcall.go (And.intro hy (And.intro hn (And.intro h1' h2'))) ?_) | (apply SW.toOp; refine SWop.go (And.intro hy (And.intro hn (And.intro h1' h2'))) ?_) | (apply SW.toCG; first | refine SWcall.yes (And.intro hy (And.intro hn (And.intro h1' h2'))) ?_ | refine SWcall.no (And.intro hy (And.intro hn (And.intro h1' h2'))) ?_) | (apply SW.toG; first | refine SWop.yes (And.intro hy (And.intro hn (And.intro h1' h2'))) ?_ | refine SWop.no (And.intro hy (And.intro hn (And.intro h1' h2'))) ?_)
            refine W.condZ G (And.intro hy (And.intro hn (And.intro h1' h2'))) ?_ ?_
            all_goals intro hc
            · repeat' first
                | refine W.seq ?_ | (refine W.regS G ?_; dsimp only) | refine SW.nil ?_ | refine thenQ_normal ?_ | refine W.skip ?_ | refine W.exit ?_ | refine thenQ_exit ?_ | refine inBlockQ_exit ?_ | refine inBlockQ_normal ?_ | refine W.block ?_
                | (apply SW.toC; refine SWcall.go (And.intro hy (And.intro hn (And.intro h1' h2'))) ?_) | (apply SW.toOp; refine SWop.go (And.intro hy (And.intro hn (And.intro h1' h2'))) ?_) | (apply SW.toCG; first | refine SWcall.yes (And.intro hy (And.intro hn (And.intro h1' h2'))) ?_ | refine SWcall.no (And.intro hy (And.intro hn (And.intro h1' h2'))) ?_) | (apply SW.toG; first | refine SWop.yes (And.intro hy (And.intro hn (And.intro h1' h2'))) ?_ | refine SWop.no (And.intro hy (And.intro hn (And.intro h1' h2'))) ?_)
              refine ⟨⟨k + 1, by omega⟩, Imp.le ?_, by show _ - (k + 1) < _ - k; omega⟩
              exact sL_leZ (And.intro e2 (And.intro hy (And.intro hn (And.intro h1' h2'))))
            · cases hc
          · have h2' : ((k : Int) < 64) = False := eq_false (by omega)
            have hh := hend2 (by omega)
            repeat' first
              | refine W.seq ?_ | (refine W.regS G ?_; dsimp only) | refine SW.nil ?_ | refine thenQ_normal ?_ | refine W.skip ?_ | refine W.exit ?_ | refine thenQ_exit ?_ | refine inBlockQ_exit ?_ | refine inBlockQ_normal ?_ | refine W.block ?_
              | (apply SW.toC; refine SWcall.go (And.intro hy (And.intro hn (And.intro h1' h2'))) ?_) | (apply SW.toOp; refine SWop.go (And.intro hy (And.intro hn (And.intro h1' h2'))) ?_) | (apply SW.toCG; first | refine SWcall.yes (And.intro hy (And.intro hn (And.intro h1' h2'))) ?_ | refine SWcall.no (And.intro hy (And.intro hn (And.intro h1' h2'))) ?_) | (apply SW.toG; first | refine SWop.yes (And.intro hy (And.intro hn (And.intro h1' h2'))) ?_ | refine SWop.no (And.intro hy (And.intro hn (And.intro h1' h2'))) ?_)
            refine W.condZ G (And.intro hy (And.intro hn (And.intro h1' h2'))) ?_ ?_
            all_goals intro hc
            · cases hc
            repeat' first
              | refine W.seq ?_ | (refine W.regS G ?_; dsimp only) | refine SW.nil ?_ | refine thenQ_normal ?_ | refine W.skip ?_ | refine W.exit ?_ | refine thenQ_exit ?_ | refine inBlockQ_exit ?_ | refine inBlockQ_normal ?_ | refine W.block ?_
              | (apply SW.toC; refine SWcall.go (And.intro hy (And.intro hn (And.intro h1' h2'))) ?_) | (apply SW.toOp; refine SWop.go (And.intro hy (And.intro hn (And.intro h1' h2'))) ?_) | (apply SW.toCG; first | refine SWcall.yes (And.intro hy (And.intro hn (And.intro h1' h2'))) ?_ | refine SWcall.no (And.intro hy (And.intro hn (And.intro h1' h2'))) ?_) | (apply SW.toG; first | refine SWop.yes (And.intro hy (And.intro hn (And.intro h1' h2'))) ?_ | refine SWop.no (And.intro hy (And.intro hn (And.intro h1' h2'))) ?_)
            refine Imp.le ?_
            exact sL_leZ (And.intro hh (And.intro hy (And.intro hn (And.intro h1' h2'))))
        · have h1' : ((k : Int) < y.length) = False := eq_false (by omega)
          have hh := hend2 (by omega)
          repeat' first
            | refine W.seq ?_ | (refine W.regS G ?_; dsimp only) | refine SW.nil ?_ | refine thenQ_normal ?_ | refine W.skip ?_ | refine W.exit ?_ | refine thenQ_exit ?_ | refine inBlockQ_exit ?_ | refine inBlockQ_normal ?_ | refine W.block ?_
            | (apply SW.toC; refine SWcall.go (And.intro hy (And.intro hn h1')) ?_) | (apply SW.toOp; refine SWop.go (And.intro hy (And.intro hn h1')) ?_) | (apply SW.toCG; first | refine SWcall.yes (And.intro hy (And.intro hn h1')) ?_ | refine SWcall.no (And.intro hy (And.intro hn h1')) ?_) | (apply SW.toG; first | refine SWop.yes (And.intro hy (And.intro hn h1')) ?_ | refine SWop.no (And.intro hy (And.intro hn h1')) ?_)
          refine W.condZ G (And.intro hy (And.intro hn h1')) ?_ ?_
          all_goals intro hc
          · cases hc
          repeat' first
            | refine W.seq ?_ | (refine W.regS G ?_; dsimp only) | refine SW.nil ?_ | refine thenQ_normal ?_ | refine W.skip ?_ | refine W.exit ?_ | refine thenQ_exit ?_ | refine inBlockQ_exit ?_ | refine inBlockQ_normal ?_ | refine W.block ?_
            | (apply SW.toC; refine SWcall.go (And.intro hy (And.intro hn h1')) ?_) | (apply SW.toOp; refine SWop.go (And.intro hy (And.intro hn h1')) ?_) | (apply SW.toCG; first | refine SWcall.yes (And.intro hy (And.intro hn h1')) ?_ | refine SWcall.no (And.intro hy (And.intro hn h1')) ?_) | (apply SW.toG; first | refine SWop.yes (And.intro hy (And.intro hn h1')) ?_ | refine SWop.no (And.intro hy (And.intro hn h1')) ?_)
          refine Imp.le ?_
          exact sL_leZ (And.intro hh (And.intro hy (And.intro hn h1')))
      have lx := bx_len y N
      generalize bx y N = x at e lx ⊢
      repeat' first
        | refine W.seq ?_ | (refine W.regS G ?_; dsimp only) | refine SW.nil ?_ | refine thenQ_normal ?_ | refine W.skip ?_ | refine W.exit ?_ | refine thenQ_exit ?_ | refine inBlockQ_exit ?_ | refine inBlockQ_normal ?_ | refine W.block ?_
        | (apply SW.toC; refine SWcall.go (And.intro blockS.eq_1 (And.intro lx la)) ?_) | (apply SW.toOp; refine SWop.go (And.intro blockS.eq_1 (And.intro lx la)) ?_) | (apply SW.toCG; first | refine SWcall.yes (And.intro blockS.eq_1 (And.intro lx la)) ?_ | refine SWcall.no (And.intro blockS.eq_1 (And.intro lx la)) ?_) | (apply SW.toG; first | refine SWop.yes (And.intro blockS.eq_1 (And.intro lx la)) ?_ | refine SWop.no (And.intro blockS.eq_1 (And.intro lx la)) ?_)
      have e7 : 64 * i + 64 = 64 * (i + 1) := by omega
      refine ⟨⟨i + 1, by omega⟩, Imp.le ?_, by show _ - (i + 1) < _ - i; omega⟩
      exact sL_leZ (And.intro e (And.intro e7 (And.intro blockS.eq_1 (And.intro lx la))))
    have ht' := of_decide_eq_false ht
    obtain rfl : i = n := by omega
    have hh := hend rfl
    repeat' first
      | refine W.seq ?_ | (refine W.regS G ?_; dsimp only) | refine SW.nil ?_ | refine thenQ_normal ?_ | refine W.skip ?_ | refine W.exit ?_ | refine thenQ_exit ?_ | refine inBlockQ_exit ?_ | refine inBlockQ_normal ?_ | refine W.block ?_
      | (apply SW.toC; refine SWcall.go hn ?_) | (apply SW.toOp; refine SWop.go hn ?_) | (apply SW.toCG; first | refine SWcall.yes hn ?_ | refine SWcall.no hn ?_) | (apply SW.toG; first | refine SWop.yes hn ?_ | refine SWop.no hn ?_)
    refine Imp.le ?_
    exact sL_leZ (And.intro hh hn)
  have la := chn_len ys n
  have hq := chain_eq ys n (by omega)
  generalize chn ys n = s at la hq ⊢
  obtain ⟨h, all⟩ := s
  dsimp only at la hq ⊢
  have he : endF (64 * n) = (((zeros 8 64).set 0 128#8).set 57 (BitVec.ofInt 8 (((64 * n : Nat) : Int) / ((32 : Nat) : Int)))).set 56 (BitVec.ofInt 8 (((64 * n : Nat) : Int) * ((8 : Nat) : Int))) := rfl
  have le : (endF (64 * n)).length = 64 := by rw [he]; simp [zeros]
  have he' := he.symm
  generalize endF (64 * n) = w at hq he' le
  generalize hg : takenF h w = g at hq
  repeat' first
    | refine W.seq ?_ | (refine W.regS G ?_; dsimp only) | refine SW.nil ?_ | refine thenQ_normal ?_ | refine W.skip ?_ | refine W.exit ?_ | refine thenQ_exit ?_ | refine inBlockQ_exit ?_ | refine inBlockQ_normal ?_ | refine W.block ?_
    | (apply SW.toC; refine SWcall.go (And.intro la (And.intro he' (And.intro le (And.intro blockS.eq_1 (And.intro sumS.eq_1 (And.intro hq hg)))))) ?_) | (apply SW.toOp; refine SWop.go (And.intro la (And.intro he' (And.intro le (And.intro blockS.eq_1 (And.intro sumS.eq_1 (And.intro hq hg)))))) ?_) | (apply SW.toCG; first | refine SWcall.yes (And.intro la (And.intro he' (And.intro le (And.intro blockS.eq_1 (And.intro sumS.eq_1 (And.intro hq hg)))))) ?_ | refine SWcall.no (And.intro la (And.intro he' (And.intro le (And.intro blockS.eq_1 (And.intro sumS.eq_1 (And.intro hq hg)))))) ?_) | (apply SW.toG; first | refine SWop.yes (And.intro la (And.intro he' (And.intro le (And.intro blockS.eq_1 (And.intro sumS.eq_1 (And.intro hq hg)))))) ?_ | refine SWop.no (And.intro la (And.intro he' (And.intro le (And.intro blockS.eq_1 (And.intro sumS.eq_1 (And.intro hq hg)))))) ?_)
  refine W.loopI (ι := {i : Nat // i ≤ 20}) (fun i => sL [(2, .b false), (3, .p 3 0 0 0), (9, .p 9 0 0 0), (10, .i i.1)] [(3, .agg 5 (.u 32 g)), (9, .agg 20 (.u 8 (oF g 20)))] 88) (fun i => 20 - i.1) ⟨0, Nat.zero_le _⟩ (Imp.le ?_) ?_
  · exact sL_leZ (And.intro la (And.intro he' (And.intro le (And.intro blockS.eq_1 (And.intro sumS.eq_1 (And.intro hq hg))))))
  rintro ⟨i, hi⟩
  repeat' first
    | refine W.seq ?_ | (refine W.regS G ?_; dsimp only) | refine SW.nil ?_ | refine thenQ_normal ?_ | refine W.skip ?_ | refine W.exit ?_ | refine thenQ_exit ?_ | refine inBlockQ_exit ?_ | refine inBlockQ_normal ?_ | refine W.block ?_
    | (apply SW.toC; refine SWcall.go True.intro ?_) | (apply SW.toOp; refine SWop.go True.intro ?_) | (apply SW.toCG; first | refine SWcall.yes True.intro ?_ | refine SWcall.no True.intro ?_) | (apply SW.toG; first | refine SWop.yes True.intro ?_ | refine SWop.no True.intro ?_)
  refine W.condZ G True.intro ?_ ?_
  all_goals intro ht
  · have ht' := of_decide_eq_true ht
    have e1 : ((i : Int) / 4) = ((i / 4 : Nat) : Int) := by omega
    have e2 : ((i : Int) % 4) = ((i % 4 : Nat) : Int) := by omega
    have e3 : (8 * ((i % 4 : Nat) : Int)) = ((8 * (i % 4) : Nat) : Int) := by omega
    have e4 : (BitVec.ofInt 64 ((8 * (i % 4) : Nat) : Int)).toNat = 8 * (i % 4) := by rw [BitVec.toNat_ofInt]; omega
    have e5 := (oF_at g 20 i (Nat.le_refl _) (by omega)).2
    repeat' first
      | refine W.seq ?_ | (refine W.regS G ?_; dsimp only) | refine SW.nil ?_ | refine thenQ_normal ?_ | refine W.skip ?_ | refine W.exit ?_ | refine thenQ_exit ?_ | refine inBlockQ_exit ?_ | refine inBlockQ_normal ?_
      | (apply SW.toC; refine SWcall.go (And.intro e1 (And.intro e2 (And.intro e3 (And.intro e4 e5)))) ?_) | (apply SW.toOp; refine SWop.go (And.intro e1 (And.intro e2 (And.intro e3 (And.intro e4 e5)))) ?_) | (apply SW.toCG; first | refine SWcall.yes (And.intro e1 (And.intro e2 (And.intro e3 (And.intro e4 e5)))) ?_ | refine SWcall.no (And.intro e1 (And.intro e2 (And.intro e3 (And.intro e4 e5)))) ?_) | (apply SW.toG; first | refine SWop.yes (And.intro e1 (And.intro e2 (And.intro e3 (And.intro e4 e5)))) ?_ | refine SWop.no (And.intro e1 (And.intro e2 (And.intro e3 (And.intro e4 e5)))) ?_)
    refine W.block ?_
    repeat' first
      | refine W.seq ?_ | (refine W.regS G ?_; dsimp only) | refine SW.nil ?_ | refine thenQ_normal ?_ | refine W.skip ?_ | refine W.exit ?_ | refine thenQ_exit ?_ | refine inBlockQ_exit ?_ | refine inBlockQ_normal ?_
      | (apply SW.toC; refine SWcall.go (And.intro e1 (And.intro e2 (And.intro e3 (And.intro e4 e5)))) ?_) | (apply SW.toOp; refine SWop.go (And.intro e1 (And.intro e2 (And.intro e3 (And.intro e4 e5)))) ?_) | (apply SW.toCG; first | refine SWcall.yes (And.intro e1 (And.intro e2 (And.intro e3 (And.intro e4 e5)))) ?_ | refine SWcall.no (And.intro e1 (And.intro e2 (And.intro e3 (And.intro e4 e5)))) ?_) | (apply SW.toG; first | refine SWop.yes (And.intro e1 (And.intro e2 (And.intro e3 (And.intro e4 e5)))) ?_ | refine SWop.no (And.intro e1 (And.intro e2 (And.intro e3 (And.intro e4 e5)))) ?_)
    refine W.drawS G [[], [0], [1, 0], [], [3], [4, 3], [5, 4, 3], [], [7], [8, 7], [9, 8, 7], [6, 5, 4, 3, 10, 9, 8, 7], [11, 6, 5, 4, 3, 10, 9, 8, 7], [2, 1, 0, 12, 11, 6, 5, 4, 3, 10, 9, 8, 7]] hmix ?_
    dsimp only
    repeat' first
      | (apply DW.nil; (focus (decide +kernel)))
      | (apply DW.toC; refine DWcall.go (And.intro e1 (And.intro e2 (And.intro e3 (And.intro e4 e5)))) ?_) | (apply DW.toOp; refine DWop.go (And.intro e1 (And.intro e2 (And.intro e3 (And.intro e4 e5)))) ?_) | (apply DW.toCG; first | refine DWcall.yes (And.intro e1 (And.intro e2 (And.intro e3 (And.intro e4 e5)))) ?_ | refine DWcall.no (And.intro e1 (And.intro e2 (And.intro e3 (And.intro e4 e5)))) ?_) | (apply DW.toG; first | refine DWop.yes (And.intro e1 (And.intro e2 (And.intro e3 (And.intro e4 e5)))) ?_ | refine DWop.no (And.intro e1 (And.intro e2 (And.intro e3 (And.intro e4 e5)))) ?_)
    repeat' first
      | refine W.seq ?_ | (refine W.regS G ?_; dsimp only) | refine SW.nil ?_ | refine thenQ_normal ?_ | refine W.skip ?_ | refine W.exit ?_ | refine thenQ_exit ?_ | refine inBlockQ_exit ?_ | refine inBlockQ_normal ?_ | refine W.block ?_
      | (apply SW.toC; refine SWcall.go (And.intro e1 (And.intro e2 (And.intro e3 (And.intro e4 e5)))) ?_) | (apply SW.toOp; refine SWop.go (And.intro e1 (And.intro e2 (And.intro e3 (And.intro e4 e5)))) ?_) | (apply SW.toCG; first | refine SWcall.yes (And.intro e1 (And.intro e2 (And.intro e3 (And.intro e4 e5)))) ?_ | refine SWcall.no (And.intro e1 (And.intro e2 (And.intro e3 (And.intro e4 e5)))) ?_) | (apply SW.toG; first | refine SWop.yes (And.intro e1 (And.intro e2 (And.intro e3 (And.intro e4 e5)))) ?_ | refine SWop.no (And.intro e1 (And.intro e2 (And.intro e3 (And.intro e4 e5)))) ?_)
    refine W.condZ G (And.intro e1 (And.intro e2 (And.intro e3 (And.intro e4 e5)))) ?_ ?_
    all_goals intro hc
    · simp at hc
    repeat' first
      | refine W.seq ?_ | (refine W.regS G ?_; dsimp only) | refine SW.nil ?_ | refine thenQ_normal ?_ | refine W.skip ?_ | refine W.exit ?_ | refine thenQ_exit ?_ | refine inBlockQ_exit ?_ | refine inBlockQ_normal ?_ | refine W.block ?_
      | (apply SW.toC; refine SWcall.go True.intro ?_) | (apply SW.toOp; refine SWop.go True.intro ?_) | (apply SW.toCG; first | refine SWcall.yes True.intro ?_ | refine SWcall.no True.intro ?_) | (apply SW.toG; first | refine SWop.yes True.intro ?_ | refine SWop.no True.intro ?_)
    refine ⟨⟨i + 1, by omega⟩, Imp.le ?_, by show _ - (i + 1) < _ - i; omega⟩
    exact sL_leZ True.intro
  repeat' first
    | refine W.seq ?_ | (refine W.regS G ?_; dsimp only) | refine SW.nil ?_ | refine thenQ_normal ?_ | refine W.skip ?_ | refine W.exit ?_ | refine thenQ_exit ?_ | refine inBlockQ_exit ?_ | refine inBlockQ_normal ?_ | refine W.block ?_
    | (apply SW.toC; refine SWcall.go liveS.eq_1 ?_) | (apply SW.toOp; refine SWop.go liveS.eq_1 ?_) | (apply SW.toCG; first | refine SWcall.yes liveS.eq_1 ?_ | refine SWcall.no liveS.eq_1 ?_) | (apply SW.toG; first | refine SWop.yes liveS.eq_1 ?_ | refine SWop.no liveS.eq_1 ?_)
  refine W.ret ?_
  repeat' first
    | refine thenQ_ret ?_
    | refine inBlockQ_ret ?_
  refine fin1Z liveS.eq_1 ?_
  exact leV_refl
end Go.Vm.C05

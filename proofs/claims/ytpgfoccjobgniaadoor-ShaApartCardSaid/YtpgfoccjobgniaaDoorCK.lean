/- What some functions of the program compute, walked through once. -/
import Derived.Test.YtpgfoccjobgniaaDoorCJ
namespace Go.Vm.C04
open Go Go.Proofs
set_option linter.unusedVariables false
set_option linter.unusedSimpArgs false
set_option maxRecDepth 100000
set_option maxHeartbeats 8000000

theorem spo_next (b : List (BitVec 8)) (k : Nat) (h : k < b.length) : puts [b.getD k 0] 1 (spo b k).1 = (spo b (k + 1)).1 ∧ (spo b k).2 + BitVec.ofInt 64 ((1 : Nat) : Int) = (spo b (k + 1)).2 := by
  have e : subL b k 1 = [b.getD k 0] := by
    unfold subL
    rw [List.take_one, List.head?_drop, List.getD_eq_getElem?_getD, List.getElem?_eq_getElem h]
    rfl
  have := spo_step b k 1 (by omega)
  rw [e] at this
  exact this
theorem spo_past (b : List (BitVec 8)) (k : Nat) (h : b.length ≤ k) : spo b (k + 1) = spo b k := by rw [spo_off b (k + 1) (by omega), spo_off b k h]
noncomputable def apartS : FSpec := { run := fun ins => match ins with
  | [.sl false (.u 8 a), .sl false (.u 8 b), .u 8 x] => chk (a.length ≤ 140737488351232 ∧ b.length ≤ 140737488351232) (some (.b true, []))
  | _ => none }
theorem apart_sound : SoundFn Tryd.prog glB 4 apartS.run := by
  have G := good_of (P := Tryd.prog) glB_ro (l := [(6, rsumS), (7, newS), (9, writeS), (10, msumS), (11, liveS)]) (by simp only [List.forall_mem_cons]; exact ⟨rsum_sound, new_sound, mwrite_sound, msum_sound, lives_sound, by simp⟩)
  refine soundFn_of_W G Tryd.func4 (by decide) rfl (by decide) ?_
  intro ins ret outs h
  unfold apartS at h
  dsimp only at h
  split at h
  rotate_left
  · cases h
  rename_i a b x
  obtain ⟨hb, h'⟩ := chk_some h
  clear h
  cases h'
  refine ⟨by show 3 ≤ 84; decide, fun w0 ext av => ?_⟩
  rw [Tryd.ntmps4, st0_eq]
  obtain ⟨n0, hn0⟩ : ∃ n : Nat, ((x.toNat : Int) % 40) = (n : Int) := ⟨x.toNat % 40, by omega⟩
  have hn40 : n0 < 40 := by omega
  obtain ⟨n, hn⟩ : ∃ n, n = 1 + n0 := ⟨_, rfl⟩
  have hn2 : (1 + (n0 : Int)) = (n : Int) := by omega
  repeat' first
    | refine W.seq ?_ | (refine W.regS G ?_; dsimp only) | refine SW.nil ?_ | refine thenQ_normal ?_ | refine W.skip ?_ | refine W.exit ?_ | refine thenQ_exit ?_ | refine inBlockQ_exit ?_ | refine inBlockQ_normal ?_ | refine W.block ?_
    | (apply SW.toC; refine SWcall.go newS.eq_1 ?_) | (apply SW.toOp; refine SWop.go newS.eq_1 ?_) | (apply SW.toCG; first | refine SWcall.yes newS.eq_1 ?_ | refine SWcall.no newS.eq_1 ?_) | (apply SW.toG; first | refine SWop.yes newS.eq_1 ?_ | refine SWop.no newS.eq_1 ?_)
  refine W.condZ G newS.eq_1 ?_ ?_
  all_goals intro hc
  · simp at hc
  have za := spo_zero a
  have zb := spo_zero b
  generalize hM : max a.length b.length = M
  repeat' first
    | refine W.seq ?_ | (refine W.regS G ?_; dsimp only) | refine SW.nil ?_ | refine thenQ_normal ?_ | refine W.skip ?_ | refine W.exit ?_ | refine thenQ_exit ?_ | refine inBlockQ_exit ?_ | refine inBlockQ_normal ?_
    | (apply SW.toC; refine SWcall.go (And.intro hn0 hn2) ?_) | (apply SW.toOp; refine SWop.go (And.intro hn0 hn2) ?_) | (apply SW.toCG; first | refine SWcall.yes (And.intro hn0 hn2) ?_ | refine SWcall.no (And.intro hn0 hn2) ?_) | (apply SW.toG; first | refine SWop.yes (And.intro hn0 hn2) ?_ | refine SWop.no (And.intro hn0 hn2) ?_)
  refine W.midI (ι := {k : Nat // M ≤ k}) (fun k => sL [(0, .sl false (.u 8 a)), (1, .sl false (.u 8 b)), (6, .b false), (7, .p 12 0 0 0), (8, .p 13 0 0 0)] [(12, .st [.agg 8 (.u 32 (spo a (k.1)).1.1), .agg 64 (.u 8 (spo a (k.1)).1.2.1), .i ((spo a (k.1)).1.2.2 : Int), .u 64 (spo a (k.1)).2]), (13, .st [.agg 8 (.u 32 (spo b (k.1)).1.1), .agg 64 (.u 8 (spo b (k.1)).1.2.1), .i ((spo b (k.1)).1.2.2 : Int), .u 64 (spo b (k.1)).2])] 84) ?_ ?_
  · repeat' first
      | refine W.seq ?_ | (refine W.regS G ?_; dsimp only) | refine SW.nil ?_ | refine thenQ_normal ?_ | refine W.skip ?_ | refine W.exit ?_ | refine thenQ_exit ?_ | refine inBlockQ_exit ?_ | refine inBlockQ_normal ?_ | refine W.block ?_
      | (apply SW.toC; refine SWcall.go (And.intro hn0 hn2) ?_) | (apply SW.toOp; refine SWop.go (And.intro hn0 hn2) ?_) | (apply SW.toCG; first | refine SWcall.yes (And.intro hn0 hn2) ?_ | refine SWcall.no (And.intro hn0 hn2) ?_) | (apply SW.toG; first | refine SWop.yes (And.intro hn0 hn2) ?_ | refine SWop.no (And.intro hn0 hn2) ?_)
    refine W.loopI (ι := {i : Nat // i ≤ M + 40}) (fun i => sL [(0, .sl false (.u 8 a)), (1, .sl false (.u 8 b)), (6, .b false), (7, .p 12 0 0 0), (8, .p 13 0 0 0), (9, .i n), (10, .i i.1)] [(12, .st [.agg 8 (.u 32 (spo a (i.1)).1.1), .agg 64 (.u 8 (spo a (i.1)).1.2.1), .i ((spo a (i.1)).1.2.2 : Int), .u 64 (spo a (i.1)).2]), (13, .st [.agg 8 (.u 32 (spo b (i.1)).1.1), .agg 64 (.u 8 (spo b (i.1)).1.2.1), .i ((spo b (i.1)).1.2.2 : Int), .u 64 (spo b (i.1)).2])] 84) (fun i => M + 40 - i.1) ⟨0, Nat.zero_le _⟩ (Imp.le ?_) ?_
    · exact sL_leZ (And.intro za (And.intro zb (And.intro hn0 hn2)))
    rintro ⟨i, hi⟩
    refine W.seq ?_
    refine W.seq ?_
    refine W.mid (sL [(0, .sl false (.u 8 a)), (1, .sl false (.u 8 b)), (6, .b false), (7, .p 12 0 0 0), (8, .p 13 0 0 0), (9, .i n), (10, .i i), (33, .b (decide (i < M)))] [(12, .st [.agg 8 (.u 32 (spo a (i)).1.1), .agg 64 (.u 8 (spo a (i)).1.2.1), .i ((spo a (i)).1.2.2 : Int), .u 64 (spo a (i)).2]), (13, .st [.agg 8 (.u 32 (spo b (i)).1.1), .agg 64 (.u 8 (spo b (i)).1.2.1), .i ((spo b (i)).1.2.2 : Int), .u 64 (spo b (i)).2])] 84) ?_ ?_
    · by_cases h1 : i < a.length
      · have h1' : ((i : Int) < a.length) = True := eq_true (by omega)
        have e : decide (i < M) = true := decide_eq_true (by omega)
        repeat' first
          | refine W.seq ?_ | (refine W.regS G ?_; dsimp only) | refine SW.nil ?_ | refine thenQ_normal ?_ | refine W.skip ?_ | refine W.exit ?_ | refine thenQ_exit ?_ | refine inBlockQ_exit ?_ | refine inBlockQ_normal ?_ | refine W.block ?_
          | (apply SW.toC; refine SWcall.go h1' ?_) | (apply SW.toOp; refine SWop.go h1' ?_) | (apply SW.toCG; first | refine SWcall.yes h1' ?_ | refine SWcall.no h1' ?_) | (apply SW.toG; first | refine SWop.yes h1' ?_ | refine SWop.no h1' ?_)
        refine Imp.le ?_
        exact sL_leZ (And.intro e h1')
      · have h1' : ((i : Int) < a.length) = False := eq_false (by omega)
        by_cases h2 : i < b.length
        · have h2' : ((i : Int) < b.length) = True := eq_true (by omega)
          have e : decide (i < M) = true := decide_eq_true (by omega)
          repeat' first
            | refine W.seq ?_ | (refine W.regS G ?_; dsimp only) | refine SW.nil ?_ | refine thenQ_normal ?_ | refine W.skip ?_ | refine W.exit ?_ | refine thenQ_exit ?_ | refine inBlockQ_exit ?_ | refine inBlockQ_normal ?_ | refine W.block ?_
            | (apply SW.toC; refine SWcall.go (And.intro h1' h2') ?_) | (apply SW.toOp; refine SWop.go (And.intro h1' h2') ?_) | (apply SW.toCG; first | refine SWcall.yes (And.intro h1' h2') ?_ | refine SWcall.no (And.intro h1' h2') ?_) | (apply SW.toG; first | refine SWop.yes (And.intro h1' h2') ?_ | refine SWop.no (And.intro h1' h2') ?_)
          refine Imp.le ?_
          exact sL_leZ (And.intro e (And.intro h1' h2'))
        · have h2' : ((i : Int) < b.length) = False := eq_false (by omega)
          have e : decide (i < M) = false := decide_eq_false (by omega)
          repeat' first
            | refine W.seq ?_ | (refine W.regS G ?_; dsimp only) | refine SW.nil ?_ | refine thenQ_normal ?_ | refine W.skip ?_ | refine W.exit ?_ | refine thenQ_exit ?_ | refine inBlockQ_exit ?_ | refine inBlockQ_normal ?_ | refine W.block ?_
            | (apply SW.toC; refine SWcall.go (And.intro h1' h2') ?_) | (apply SW.toOp; refine SWop.go (And.intro h1' h2') ?_) | (apply SW.toCG; first | refine SWcall.yes (And.intro h1' h2') ?_ | refine SWcall.no (And.intro h1' h2') ?_) | (apply SW.toG; first | refine SWop.yes (And.intro h1' h2') ?_ | refine SWop.no (And.intro h1' h2') ?_)
          refine Imp.le ?_
          exact sL_leZ (And.intro e (And.intro h1' h2'))
    repeat' first
      | refine W.seq ?_ | (refine W.regS G ?_; dsimp only) | refine SW.nil ?_ | refine thenQ_normal ?_ | refine W.skip ?_ | refine W.exit ?_ | refine thenQ_exit ?_ | refine inBlockQ_exit ?_ | refine inBlockQ_normal ?_
      | (apply SW.toC; refine SWcall.go True.intro ?_) | (apply SW.toOp; refine SWop.go True.intro ?_) | (apply SW.toCG; first | refine SWcall.yes True.intro ?_ | refine SWcall.no True.intro ?_) | (apply SW.toG; first | refine SWop.yes True.intro ?_ | refine SWop.no True.intro ?_)
    refine W.condZ G True.intro ?_ ?_
    all_goals intro ht
    · have ht' := of_decide_eq_true ht
      repeat' first
        | refine W.seq ?_ | (refine W.regS G ?_; dsimp only) | refine SW.nil ?_ | refine thenQ_normal ?_ | refine W.skip ?_ | refine W.exit ?_ | refine thenQ_exit ?_ | refine inBlockQ_exit ?_ | refine inBlockQ_normal ?_
        | (apply SW.toC; refine SWcall.go True.intro ?_) | (apply SW.toOp; refine SWop.go True.intro ?_) | (apply SW.toCG; first | refine SWcall.yes True.intro ?_ | refine SWcall.no True.intro ?_) | (apply SW.toG; first | refine SWop.yes True.intro ?_ | refine SWop.no True.intro ?_)
      refine W.block ?_
      repeat' first
        | refine W.seq ?_ | (refine W.regS G ?_; dsimp only) | refine SW.nil ?_ | refine thenQ_normal ?_ | refine W.skip ?_ | refine W.exit ?_ | refine thenQ_exit ?_ | refine inBlockQ_exit ?_ | refine inBlockQ_normal ?_
        | (apply SW.toC; refine SWcall.go True.intro ?_) | (apply SW.toOp; refine SWop.go True.intro ?_) | (apply SW.toCG; first | refine SWcall.yes True.intro ?_ | refine SWcall.no True.intro ?_) | (apply SW.toG; first | refine SWop.yes True.intro ?_ | refine SWop.no True.intro ?_)
      refine W.mid (sL [(0, .sl false (.u 8 a)), (1, .sl false (.u 8 b)), (6, .b false), (7, .p 12 0 0 0), (8, .p 13 0 0 0), (9, .i n), (10, .i i)] [(12, .st [.agg 8 (.u 32 (spo a (i + n)).1.1), .agg 64 (.u 8 (spo a (i + n)).1.2.1), .i ((spo a (i + n)).1.2.2 : Int), .u 64 (spo a (i + n)).2]), (13, .st [.agg 8 (.u 32 (spo b (i + n)).1.1), .agg 64 (.u 8 (spo b (i + n)).1.2.1), .i ((spo b (i + n)).1.2.2 : Int), .u 64 (spo b (i + n)).2])] 84) ?_ ?_
      · repeat' first
          | refine W.seq ?_ | (refine W.regS G ?_; dsimp only) | refine SW.nil ?_ | refine thenQ_normal ?_ | refine W.skip ?_ | refine W.exit ?_ | refine thenQ_exit ?_ | refine inBlockQ_exit ?_ | refine inBlockQ_normal ?_ | refine W.block ?_
          | (apply SW.toC; refine SWcall.go True.intro ?_) | (apply SW.toOp; refine SWop.go True.intro ?_) | (apply SW.toCG; first | refine SWcall.yes True.intro ?_ | refine SWcall.no True.intro ?_) | (apply SW.toG; first | refine SWop.yes True.intro ?_ | refine SWop.no True.intro ?_)
        refine W.loopI (ι := {d : Nat // d ≤ n}) (fun d => sL [(0, .sl false (.u 8 a)), (1, .sl false (.u 8 b)), (6, .b false), (7, .p 12 0 0 0), (8, .p 13 0 0 0), (9, .i n), (10, .i i), (11, .i ((i + d.1 : Nat) : Int))] [(12, .st [.agg 8 (.u 32 (spo a (i + d.1)).1.1), .agg 64 (.u 8 (spo a (i + d.1)).1.2.1), .i ((spo a (i + d.1)).1.2.2 : Int), .u 64 (spo a (i + d.1)).2]), (13, .st [.agg 8 (.u 32 (spo b (i + d.1)).1.1), .agg 64 (.u 8 (spo b (i + d.1)).1.2.1), .i ((spo b (i + d.1)).1.2.2 : Int), .u 64 (spo b (i + d.1)).2])] 84) (fun d => n - d.1) ⟨0, Nat.zero_le _⟩ (Imp.le ?_) ?_
        · exact sL_leZ True.intro
        rintro ⟨d, hd⟩
        generalize hk : i + d = k
        have hkl : k ≤ 140737488351400 := by omega
        repeat' first
          | refine W.seq ?_ | (refine W.regS G ?_; dsimp only) | refine SW.nil ?_ | refine thenQ_normal ?_ | refine W.skip ?_ | refine W.exit ?_ | refine thenQ_exit ?_ | refine inBlockQ_exit ?_ | refine inBlockQ_normal ?_ | refine W.block ?_
          | (apply SW.toC; refine SWcall.go True.intro ?_) | (apply SW.toOp; refine SWop.go True.intro ?_) | (apply SW.toCG; first | refine SWcall.yes True.intro ?_ | refine SWcall.no True.intro ?_) | (apply SW.toG; first | refine SWop.yes True.intro ?_ | refine SWop.no True.intro ?_)
        refine W.condZ G True.intro ?_ ?_
        all_goals intro hu
        · have hu' := of_decide_eq_true hu
          obtain ⟨a1, a2, a3⟩ := spo_ok a k
          obtain ⟨b1, b2, b3⟩ := spo_ok b k
          have na := spo_next a k
          have nb := spo_next b k
          have pa := spo_past a k
          have pb := spo_past b k
          generalize spo a k = sa at a1 a2 a3 na pa ⊢
          generalize spo b k = sb at b1 b2 b3 nb pb ⊢
          obtain ⟨⟨x1, x2, x3⟩, x4⟩ := sa
          obtain ⟨⟨y1, y2, y3⟩, y4⟩ := sb
          dsimp only at a1 a2 a3 na pa b1 b2 b3 nb pb ⊢
          repeat' first
            | refine W.seq ?_ | (refine W.regS G ?_; dsimp only) | refine SW.nil ?_ | refine thenQ_normal ?_ | refine W.skip ?_ | refine W.exit ?_ | refine thenQ_exit ?_ | refine inBlockQ_exit ?_ | refine inBlockQ_normal ?_
            | (apply SW.toC; refine SWcall.go True.intro ?_) | (apply SW.toOp; refine SWop.go True.intro ?_) | (apply SW.toCG; first | refine SWcall.yes True.intro ?_ | refine SWcall.no True.intro ?_) | (apply SW.toG; first | refine SWop.yes True.intro ?_ | refine SWop.no True.intro ?_)
          refine W.block ?_
          repeat' first
            | refine W.seq ?_ | (refine W.regS G ?_; dsimp only) | refine SW.nil ?_ | refine thenQ_normal ?_ | refine W.skip ?_ | refine W.exit ?_ | refine thenQ_exit ?_ | refine inBlockQ_exit ?_ | refine inBlockQ_normal ?_
            | (apply SW.toC; refine SWcall.go True.intro ?_) | (apply SW.toOp; refine SWop.go True.intro ?_) | (apply SW.toCG; first | refine SWcall.yes True.intro ?_ | refine SWcall.no True.intro ?_) | (apply SW.toG; first | refine SWop.yes True.intro ?_ | refine SWop.no True.intro ?_)
          refine W.mid (sL [(0, .sl false (.u 8 a)), (1, .sl false (.u 8 b)), (6, .b false), (7, .p 12 0 0 0), (8, .p 13 0 0 0), (9, .i n), (10, .i i), (11, .i (k : Int))] [(12, .st [.agg 8 (.u 32 (spo a (k + 1)).1.1), .agg 64 (.u 8 (spo a (k + 1)).1.2.1), .i ((spo a (k + 1)).1.2.2 : Int), .u 64 (spo a (k + 1)).2]), (13, .st [.agg 8 (.u 32 y1), .agg 64 (.u 8 y2), .i (y3 : Int), .u 64 y4])] 84) ?_ ?_
          · refine W.condZ G True.intro ?_ ?_
            all_goals intro hv
            · have hv' := of_decide_eq_true hv
              obtain ⟨e1, e2⟩ := na (by omega)
              generalize hz : a.getD k 0 = z at e1
              repeat' first
                | refine W.seq ?_ | (refine W.regS G ?_; dsimp only) | refine SW.nil ?_ | refine thenQ_normal ?_ | refine W.skip ?_ | refine W.exit ?_ | refine thenQ_exit ?_ | refine inBlockQ_exit ?_ | refine inBlockQ_normal ?_ | refine W.block ?_
                | (apply SW.toC; refine SWcall.go (And.intro hz (And.intro writeS.eq_1 (And.intro a1 a2))) ?_) | (apply SW.toOp; refine SWop.go (And.intro hz (And.intro writeS.eq_1 (And.intro a1 a2))) ?_) | (apply SW.toCG; first | refine SWcall.yes (And.intro hz (And.intro writeS.eq_1 (And.intro a1 a2))) ?_ | refine SWcall.no (And.intro hz (And.intro writeS.eq_1 (And.intro a1 a2))) ?_) | (apply SW.toG; first | refine SWop.yes (And.intro hz (And.intro writeS.eq_1 (And.intro a1 a2))) ?_ | refine SWop.no (And.intro hz (And.intro writeS.eq_1 (And.intro a1 a2))) ?_)
              refine Imp.le ?_
              exact sL_leZ (And.intro e1 (And.intro e2 (And.intro hz (And.intro writeS.eq_1 (And.intro a1 a2)))))
            · have hv' := of_decide_eq_false hv
              have e1 := pa (by omega)
              repeat' first
                | refine W.seq ?_ | (refine W.regS G ?_; dsimp only) | refine SW.nil ?_ | refine thenQ_normal ?_ | refine W.skip ?_ | refine W.exit ?_ | refine thenQ_exit ?_ | refine inBlockQ_exit ?_ | refine inBlockQ_normal ?_ | refine W.block ?_
                | (apply SW.toC; refine SWcall.go True.intro ?_) | (apply SW.toOp; refine SWop.go True.intro ?_) | (apply SW.toCG; first | refine SWcall.yes True.intro ?_ | refine SWcall.no True.intro ?_) | (apply SW.toG; first | refine SWop.yes True.intro ?_ | refine SWop.no True.intro ?_)
              refine Imp.le ?_
              exact sL_leZ e1
          repeat' first
            | refine W.seq ?_ | (refine W.regS G ?_; dsimp only) | refine SW.nil ?_ | refine thenQ_normal ?_ | refine W.skip ?_ | refine W.exit ?_ | refine thenQ_exit ?_ | refine inBlockQ_exit ?_ | refine inBlockQ_normal ?_
            | (apply SW.toC; refine SWcall.go True.intro ?_) | (apply SW.toOp; refine SWop.go True.intro ?_) | (apply SW.toCG; first | refine SWcall.yes True.intro ?_ | refine SWcall.no True.intro ?_) | (apply SW.toG; first | refine SWop.yes True.intro ?_ | refine SWop.no True.intro ?_)
          refine W.midB (sL [(0, .sl false (.u 8 a)), (1, .sl false (.u 8 b)), (6, .b false), (7, .p 12 0 0 0), (8, .p 13 0 0 0), (9, .i n), (10, .i i), (11, .i (k : Int))] [(12, .st [.agg 8 (.u 32 (spo a (k + 1)).1.1), .agg 64 (.u 8 (spo a (k + 1)).1.2.1), .i ((spo a (k + 1)).1.2.2 : Int), .u 64 (spo a (k + 1)).2]), (13, .st [.agg 8 (.u 32 (spo b (k + 1)).1.1), .agg 64 (.u 8 (spo b (k + 1)).1.2.1), .i ((spo b (k + 1)).1.2.2 : Int), .u 64 (spo b (k + 1)).2])] 84) ?_ ?_
          · refine W.condZ G True.intro ?_ ?_
            all_goals intro hv
            · have hv' := of_decide_eq_true hv
              obtain ⟨e1, e2⟩ := nb (by omega)
              generalize hz : b.getD k 0 = z at e1
              repeat' first
                | refine W.seq ?_ | (refine W.regS G ?_; dsimp only) | refine SW.nil ?_ | refine thenQ_normal ?_ | refine W.skip ?_ | refine W.exit ?_ | refine thenQ_exit ?_ | refine inBlockQ_exit ?_ | refine inBlockQ_normal ?_ | refine W.block ?_
                | (apply SW.toC; refine SWcall.go (And.intro hz (And.intro writeS.eq_1 (And.intro b1 b2))) ?_) | (apply SW.toOp; refine SWop.go (And.intro hz (And.intro writeS.eq_1 (And.intro b1 b2))) ?_) | (apply SW.toCG; first | refine SWcall.yes (And.intro hz (And.intro writeS.eq_1 (And.intro b1 b2))) ?_ | refine SWcall.no (And.intro hz (And.intro writeS.eq_1 (And.intro b1 b2))) ?_) | (apply SW.toG; first | refine SWop.yes (And.intro hz (And.intro writeS.eq_1 (And.intro b1 b2))) ?_ | refine SWop.no (And.intro hz (And.intro writeS.eq_1 (And.intro b1 b2))) ?_)
              refine Imp.le ?_
              exact sL_leZ (And.intro e1 (And.intro e2 (And.intro hz (And.intro writeS.eq_1 (And.intro b1 b2)))))
            · have hv' := of_decide_eq_false hv
              have e1 := pb (by omega)
              repeat' first
                | refine W.seq ?_ | (refine W.regS G ?_; dsimp only) | refine SW.nil ?_ | refine thenQ_normal ?_ | refine W.skip ?_ | refine W.exit ?_ | refine thenQ_exit ?_ | refine inBlockQ_exit ?_ | refine inBlockQ_normal ?_ | refine W.block ?_
                | (apply SW.toC; refine SWcall.go True.intro ?_) | (apply SW.toOp; refine SWop.go True.intro ?_) | (apply SW.toCG; first | refine SWcall.yes True.intro ?_ | refine SWcall.no True.intro ?_) | (apply SW.toG; first | refine SWop.yes True.intro ?_ | refine SWop.no True.intro ?_)
              refine Imp.le ?_
              exact sL_leZ e1
          repeat' first
            | refine W.seq ?_ | (refine W.regS G ?_; dsimp only) | refine SW.nil ?_ | refine thenQ_normal ?_ | refine W.skip ?_ | refine W.exit ?_ | refine thenQ_exit ?_ | refine inBlockQ_exit ?_ | refine inBlockQ_normal ?_ | refine W.block ?_
            | (apply SW.toC; refine SWcall.go True.intro ?_) | (apply SW.toOp; refine SWop.go True.intro ?_) | (apply SW.toCG; first | refine SWcall.yes True.intro ?_ | refine SWcall.no True.intro ?_) | (apply SW.toG; first | refine SWop.yes True.intro ?_ | refine SWop.no True.intro ?_)
          have ek : i + (d + 1) = k + 1 := by omega
          refine ⟨⟨d + 1, by omega⟩, Imp.le ?_, by show _ - (d + 1) < _ - d; omega⟩
          exact sL_leZ ek
        have hu' := of_decide_eq_false hu
        have ek : i + n = k := by omega
        repeat' first
          | refine W.seq ?_ | (refine W.regS G ?_; dsimp only) | refine SW.nil ?_ | refine thenQ_normal ?_ | refine W.skip ?_ | refine W.exit ?_ | refine thenQ_exit ?_ | refine inBlockQ_exit ?_ | refine inBlockQ_normal ?_ | refine W.block ?_
          | (apply SW.toC; refine SWcall.go True.intro ?_) | (apply SW.toOp; refine SWop.go True.intro ?_) | (apply SW.toCG; first | refine SWcall.yes True.intro ?_ | refine SWcall.no True.intro ?_) | (apply SW.toG; first | refine SWop.yes True.intro ?_ | refine SWop.no True.intro ?_)
        refine Imp.le ?_
        exact sL_leZ ek
      obtain ⟨a1, a2, a3⟩ := spo_ok a (i + n)
      repeat' first
        | refine W.seq ?_ | (refine W.regS G ?_; dsimp only) | refine SW.nil ?_ | refine thenQ_normal ?_ | refine W.skip ?_ | refine W.exit ?_ | refine thenQ_exit ?_ | refine inBlockQ_exit ?_ | refine inBlockQ_normal ?_ | refine W.block ?_
        | (apply SW.toC; refine SWcall.go (And.intro msumS.eq_1 (And.intro a1 a2)) ?_) | (apply SW.toOp; refine SWop.go (And.intro msumS.eq_1 (And.intro a1 a2)) ?_) | (apply SW.toCG; first | refine SWcall.yes (And.intro msumS.eq_1 (And.intro a1 a2)) ?_ | refine SWcall.no (And.intro msumS.eq_1 (And.intro a1 a2)) ?_) | (apply SW.toG; first | refine SWop.yes (And.intro msumS.eq_1 (And.intro a1 a2)) ?_ | refine SWop.no (And.intro msumS.eq_1 (And.intro a1 a2)) ?_)
      have ei : ((i : Int) + n) = ((i + n : Nat) : Int) := by omega
      refine ⟨⟨i + n, by omega⟩, Imp.le ?_, by show _ - (i + n) < _ - i; omega⟩
      exact sL_leZ (And.intro ei (And.intro msumS.eq_1 (And.intro a1 a2)))
    have ht' := of_decide_eq_false ht
    repeat' first
      | refine W.seq ?_ | (refine W.regS G ?_; dsimp only) | refine SW.nil ?_ | refine thenQ_normal ?_ | refine W.skip ?_ | refine W.exit ?_ | refine thenQ_exit ?_ | refine inBlockQ_exit ?_ | refine inBlockQ_normal ?_ | refine W.block ?_
      | (apply SW.toC; refine SWcall.go True.intro ?_) | (apply SW.toOp; refine SWop.go True.intro ?_) | (apply SW.toCG; first | refine SWcall.yes True.intro ?_ | refine SWcall.no True.intro ?_) | (apply SW.toG; first | refine SWop.yes True.intro ?_ | refine SWop.no True.intro ?_)
    refine ⟨⟨i, by omega⟩, Imp.le ?_⟩
    exact sL_leZ True.intro
  rintro ⟨k, hk⟩
  obtain ⟨a1, a2, a3⟩ := spo_ok a k
  obtain ⟨b1, b2, b3⟩ := spo_ok b k
  have ha : hashF ((spo a k).1.1, (spo a k).1.2.1, (spo a k).1.2.2) (spo a k).2 = rhash a kB begunB := by
    rw [spo_off a k (by omega)]; exact spo_all a
  have hb2 : hashF ((spo b k).1.1, (spo b k).1.2.1, (spo b k).1.2.2) (spo b k).2 = rhash b kB begunB := by
    rw [spo_off b k (by omega)]; exact spo_all b
  generalize hHa : rhash a kB begunB = Ha at ha
  generalize hHb : rhash b kB begunB = Hb at hb2
  generalize spo a k = sa at a1 a2 a3 ha ⊢
  generalize spo b k = sb at b1 b2 b3 hb2 ⊢
  repeat' first
    | refine W.seq ?_ | (refine W.regS G ?_; dsimp only) | refine SW.nil ?_ | refine thenQ_normal ?_ | refine W.skip ?_ | refine W.exit ?_ | refine thenQ_exit ?_ | refine inBlockQ_exit ?_ | refine inBlockQ_normal ?_ | refine W.block ?_
    | (apply SW.toC; refine SWcall.go (And.intro msumS.eq_1 (And.intro a1 (And.intro a2 (And.intro b1 (And.intro b2 (And.intro ha (And.intro hb2 (And.intro rsumS.eq_1 (And.intro hHa (And.intro hHb liveS.eq_1)))))))))) ?_) | (apply SW.toOp; refine SWop.go (And.intro msumS.eq_1 (And.intro a1 (And.intro a2 (And.intro b1 (And.intro b2 (And.intro ha (And.intro hb2 (And.intro rsumS.eq_1 (And.intro hHa (And.intro hHb liveS.eq_1)))))))))) ?_) | (apply SW.toCG; first | refine SWcall.yes (And.intro msumS.eq_1 (And.intro a1 (And.intro a2 (And.intro b1 (And.intro b2 (And.intro ha (And.intro hb2 (And.intro rsumS.eq_1 (And.intro hHa (And.intro hHb liveS.eq_1)))))))))) ?_ | refine SWcall.no (And.intro msumS.eq_1 (And.intro a1 (And.intro a2 (And.intro b1 (And.intro b2 (And.intro ha (And.intro hb2 (And.intro rsumS.eq_1 (And.intro hHa (And.intro hHb liveS.eq_1)))))))))) ?_) | (apply SW.toG; first | refine SWop.yes (And.intro msumS.eq_1 (And.intro a1 (And.intro a2 (And.intro b1 (And.intro b2 (And.intro ha (And.intro hb2 (And.intro rsumS.eq_1 (And.intro hHa (And.intro hHb liveS.eq_1)))))))))) ?_ | refine SWop.no (And.intro msumS.eq_1 (And.intro a1 (And.intro a2 (And.intro b1 (And.intro b2 (And.intro ha (And.intro hb2 (And.intro rsumS.eq_1 (And.intro hHa (And.intro hHb liveS.eq_1)))))))))) ?_)
  refine W.ret ?_
  repeat' first
    | refine thenQ_ret ?_
    | refine inBlockQ_ret ?_
  refine fin1Z (And.intro msumS.eq_1 (And.intro a1 (And.intro a2 (And.intro b1 (And.intro b2 (And.intro ha (And.intro hb2 (And.intro rsumS.eq_1 (And.intro hHa (And.intro hHb liveS.eq_1)))))))))) ?_
  exact leV_refl
end Go.Vm.C04

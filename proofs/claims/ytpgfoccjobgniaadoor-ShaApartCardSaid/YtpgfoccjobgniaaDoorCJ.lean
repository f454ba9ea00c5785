/- What some functions of the program compute, walked through once. -/
import Derived.Test.YtpgfoccjobgniaaDoorCI
namespace Go.Vm.C04
open Go Go.Proofs
set_option linter.unusedVariables false
set_option linter.unusedSimpArgs false
set_option maxRecDepth 100000
set_option maxHeartbeats 8000000

noncomputable def keysS : FSpec := { run := fun ins => match ins with
  | [.sl false (.u 8 key), .sl false (.u 8 b)] => chk (key.length ≤ 140737488351232 ∧ b.length ≤ 140737488351232) (some (.b true, []))
  | _ => none }
theorem keys_sound : SoundFn Tryd.prog glB 5 keysS.run := by
  have G := good_of (P := Tryd.prog) glB_ro (l := [(12, hmacS), (13, rhmacS), (11, liveS)]) (by simp only [List.forall_mem_cons]; exact ⟨hmac_sound, rhmac_sound, lives_sound, by simp⟩)
  refine soundFn_of_W G Tryd.func5 (by decide) rfl (by decide) ?_
  intro ins ret outs h
  unfold keysS at h
  dsimp only at h
  split at h
  rotate_left
  · cases h
  rename_i key b
  obtain ⟨hl, h'⟩ := chk_some h
  clear h
  cases h'
  refine ⟨by show 2 ≤ 36; decide, fun w0 ext av => ?_⟩
  rw [Tryd.ntmps5, st0_eq]
  have e1 := hmac_eq key b
  repeat' first
    | refine W.seq ?_ | (refine W.regS G ?_; dsimp only) | refine SW.nil ?_ | refine thenQ_normal ?_ | refine W.skip ?_ | refine W.exit ?_ | refine thenQ_exit ?_ | refine inBlockQ_exit ?_ | refine inBlockQ_normal ?_ | refine W.block ?_
    | (apply SW.toC; refine SWcall.go (And.intro hmacS.eq_1 e1) ?_) | (apply SW.toOp; refine SWop.go (And.intro hmacS.eq_1 e1) ?_) | (apply SW.toCG; first | refine SWcall.yes (And.intro hmacS.eq_1 e1) ?_ | refine SWcall.no (And.intro hmacS.eq_1 e1) ?_) | (apply SW.toG; first | refine SWop.yes (And.intro hmacS.eq_1 e1) ?_ | refine SWop.no (And.intro hmacS.eq_1 e1) ?_)
  refine W.drawS G [[], [], [], [1, 2], [0, 3, 1, 2]] hmix ?_
  dsimp only
  repeat' first
    | (apply DW.nil; (focus (decide +kernel)))
    | (apply DW.toC; refine DWcall.go (And.intro hmacS.eq_1 (And.intro e1 rhmacS.eq_1)) ?_) | (apply DW.toOp; refine DWop.go (And.intro hmacS.eq_1 (And.intro e1 rhmacS.eq_1)) ?_) | (apply DW.toCG; first | refine DWcall.yes (And.intro hmacS.eq_1 (And.intro e1 rhmacS.eq_1)) ?_ | refine DWcall.no (And.intro hmacS.eq_1 (And.intro e1 rhmacS.eq_1)) ?_) | (apply DW.toG; first | refine DWop.yes (And.intro hmacS.eq_1 (And.intro e1 rhmacS.eq_1)) ?_ | refine DWop.no (And.intro hmacS.eq_1 (And.intro e1 rhmacS.eq_1)) ?_)
  repeat' first
    | refine W.seq ?_ | (refine W.regS G ?_; dsimp only) | refine SW.nil ?_ | refine thenQ_normal ?_ | refine W.skip ?_ | refine W.exit ?_ | refine thenQ_exit ?_ | refine inBlockQ_exit ?_ | refine inBlockQ_normal ?_ | refine W.block ?_
    | (apply SW.toC; refine SWcall.go (And.intro hmacS.eq_1 e1) ?_) | (apply SW.toOp; refine SWop.go (And.intro hmacS.eq_1 e1) ?_) | (apply SW.toCG; first | refine SWcall.yes (And.intro hmacS.eq_1 e1) ?_ | refine SWcall.no (And.intro hmacS.eq_1 e1) ?_) | (apply SW.toG; first | refine SWop.yes (And.intro hmacS.eq_1 e1) ?_ | refine SWop.no (And.intro hmacS.eq_1 e1) ?_)
  refine W.condZ G (And.intro hmacS.eq_1 e1) ?_ ?_
  all_goals intro hc
  · simp at hc
  repeat' first
    | refine W.seq ?_ | (refine W.regS G ?_; dsimp only) | refine SW.nil ?_ | refine thenQ_normal ?_ | refine W.skip ?_ | refine W.exit ?_ | refine thenQ_exit ?_ | refine inBlockQ_exit ?_ | refine inBlockQ_normal ?_ | refine W.block ?_
    | (apply SW.toC; refine SWcall.go hmacS.eq_1 ?_) | (apply SW.toOp; refine SWop.go hmacS.eq_1 ?_) | (apply SW.toCG; first | refine SWcall.yes hmacS.eq_1 ?_ | refine SWcall.no hmacS.eq_1 ?_) | (apply SW.toG; first | refine SWop.yes hmacS.eq_1 ?_ | refine SWop.no hmacS.eq_1 ?_)
  refine W.condZ G hmacS.eq_1 ?_ ?_
  all_goals intro hd
  · have hd' := of_decide_eq_true hd
    have e2 : hmacF (key ++ [0#8]) b = rhmacF key b := by rw [hmac_eq, hmac_nought key b (by omega)]
    repeat' first
      | refine W.seq ?_ | (refine W.regS G ?_; dsimp only) | refine SW.nil ?_ | refine thenQ_normal ?_ | refine W.skip ?_ | refine W.exit ?_ | refine thenQ_exit ?_ | refine inBlockQ_exit ?_ | refine inBlockQ_normal ?_
      | (apply SW.toC; refine SWcall.go hmacS.eq_1 ?_) | (apply SW.toOp; refine SWop.go hmacS.eq_1 ?_) | (apply SW.toCG; first | refine SWcall.yes hmacS.eq_1 ?_ | refine SWcall.no hmacS.eq_1 ?_) | (apply SW.toG; first | refine SWop.yes hmacS.eq_1 ?_ | refine SWop.no hmacS.eq_1 ?_)
    refine W.drawS G [[], [], [0, 1], [], [2, 0, 1, 3], [], [], [5, 6, 4, 2, 0, 1, 3], [4, 2, 0, 1, 3, 7, 5, 6], [], [8, 4, 2, 0, 1, 3, 7, 5, 6, 9], [10, 8, 4, 2, 0, 1, 3, 7, 5, 6, 9], [11, 10, 8, 4, 2, 0, 1, 3, 7, 5, 6, 9], [11, 10, 8, 4, 2, 0, 1, 3, 7, 5, 6, 9, 12], [13, 11, 10, 8, 4, 2, 0, 1, 3, 7, 5, 6, 9, 12]] hmix ?_
    dsimp only
    repeat' first
      | (apply DW.nil; (focus (decide +kernel)))
      | (apply DW.toC; refine DWcall.go (And.intro hmacS.eq_1 (And.intro e2 liveS.eq_1)) ?_) | (apply DW.toOp; refine DWop.go (And.intro hmacS.eq_1 (And.intro e2 liveS.eq_1)) ?_) | (apply DW.toCG; first | refine DWcall.yes (And.intro hmacS.eq_1 (And.intro e2 liveS.eq_1)) ?_ | refine DWcall.no (And.intro hmacS.eq_1 (And.intro e2 liveS.eq_1)) ?_) | (apply DW.toG; first | refine DWop.yes (And.intro hmacS.eq_1 (And.intro e2 liveS.eq_1)) ?_ | refine DWop.no (And.intro hmacS.eq_1 (And.intro e2 liveS.eq_1)) ?_)
    repeat' first
      | refine W.seq ?_ | (refine W.regS G ?_; dsimp only) | refine SW.nil ?_ | refine thenQ_normal ?_ | refine W.skip ?_ | refine W.exit ?_ | refine thenQ_exit ?_ | refine inBlockQ_exit ?_ | refine inBlockQ_normal ?_ | refine W.block ?_
      | (apply SW.toC; refine SWcall.go hmacS.eq_1 ?_) | (apply SW.toOp; refine SWop.go hmacS.eq_1 ?_) | (apply SW.toCG; first | refine SWcall.yes hmacS.eq_1 ?_ | refine SWcall.no hmacS.eq_1 ?_) | (apply SW.toG; first | refine SWop.yes hmacS.eq_1 ?_ | refine SWop.no hmacS.eq_1 ?_)
    refine W.ret ?_
    repeat' first
      | refine thenQ_ret ?_
      | refine inBlockQ_ret ?_
    refine fin1Z hmacS.eq_1 ?_
    exact leV_refl
  · skip
    repeat' first
      | refine W.seq ?_ | (refine W.regS G ?_; dsimp only) | refine SW.nil ?_ | refine thenQ_normal ?_ | refine W.skip ?_ | refine W.exit ?_ | refine thenQ_exit ?_ | refine inBlockQ_exit ?_ | refine inBlockQ_normal ?_ | refine W.block ?_
      | (apply SW.toC; refine SWcall.go liveS.eq_1 ?_) | (apply SW.toOp; refine SWop.go liveS.eq_1 ?_) | (apply SW.toCG; first | refine SWcall.yes liveS.eq_1 ?_ | refine SWcall.no liveS.eq_1 ?_) | (apply SW.toG; first | refine SWop.yes liveS.eq_1 ?_ | refine SWop.no liveS.eq_1 ?_)
    refine W.ret ?_
    repeat' first
      | refine thenQ_ret ?_
      | refine inBlockQ_ret ?_
    refine fin1Z liveS.eq_1 ?_
    exact leV_refl

/-! ### the digest, when so many bytes are in it -/
noncomputable def spo (b : List (BitVec 8)) (k : Nat) : Dg × BitVec 64 := (putA (b.take k) p0, BitVec.ofInt 64 ((b.take k).length : Int))
theorem spo_ok (b : List (BitVec 8)) (k : Nat) : okP (spo b k).1 := (puts_ok _ _ p0_ok).1
theorem spo_step (b : List (BitVec 8)) (k n : Nat) (h : k + n ≤ b.length) : puts (subL b k n) n (spo b k).1 = (spo b (k + n)).1 ∧ (spo b k).2 + BitVec.ofInt 64 (n : Int) = (spo b (k + n)).2 := by
  have e : b.take (k + n) = b.take k ++ subL b k n := by unfold subL; rw [List.take_add]
  have l := subL_len b k n h
  have hp : puts (subL b k n) n (spo b k).1 = putA (subL b k n) (putA (b.take k) p0) := by unfold putA; rw [l]; rfl
  refine ⟨?_, ?_⟩
  · rw [hp, ← putA_append, ← e]; rfl
  · unfold spo
    dsimp only
    rw [← BitVec.ofInt_add, List.length_take, List.length_take]
    congr 1
    omega
theorem spo_zero (b : List (BitVec 8)) : spo b 0 = ((begunB, zeros 8 64, 0), 0#64) := by
  unfold spo
  rw [List.take_zero, putA_nil]
  rfl
theorem spo_hash (b : List (BitVec 8)) (k : Nat) : hashF (spo b k).1 (spo b k).2 = rhash (b.take k) kB begunB := hash_eq (b.take k)
theorem spo_all (b : List (BitVec 8)) : hashF (spo b b.length).1 (spo b b.length).2 = rhash b kB begunB := by rw [spo_hash, List.take_length]
theorem spo_off (b : List (BitVec 8)) (k : Nat) (h : b.length ≤ k) : spo b k = spo b b.length := by
  unfold spo
  rw [List.take_of_length_le h, List.take_length]

def atF (L : Nat) (cuts : List (BitVec 16)) (i : Nat) : Nat := itN (fun i at' => at' + (cuts.getD i 0).toNat % (L - at' + 1)) i 0
theorem atF_le (L : Nat) (cuts : List (BitVec 16)) (i : Nat) : atF L cuts i ≤ L := by
  refine itN_inv (p := fun a => a ≤ L) (fun i a h => ?_) i (Nat.zero_le _)
  have := Nat.mod_lt (cuts.getD i 0).toNat (show 0 < L - a + 1 by omega)
  omega
noncomputable def sumsS : FSpec := { run := fun ins => match ins with
  | [.sl false (.u 8 b), .sl false (.u 16 cuts)] => chk (b.length ≤ 140737488351232 ∧ cuts.length ≤ 140737488351232) (some (.b true, []))
  | _ => none }
theorem sums_sound : SoundFn Tryd.prog glB 3 sumsS.run := by
  have G := good_of (P := Tryd.prog) glB_ro (l := [(6, rsumS), (7, newS), (8, sum1S), (9, writeS), (10, msumS), (11, liveS)]) (by simp only [List.forall_mem_cons]; exact ⟨rsum_sound, new_sound, sum1_sound, mwrite_sound, msum_sound, lives_sound, by simp⟩)
  refine soundFn_of_W G Tryd.func3 (by decide) rfl (by decide) ?_
  intro ins ret outs h
  unfold sumsS at h
  dsimp only at h
  split at h
  rotate_left
  · cases h
  rename_i b cuts
  obtain ⟨hb, h'⟩ := chk_some h
  clear h
  cases h'
  refine ⟨by show 2 ≤ 75; decide, fun w0 ext av => ?_⟩
  rw [Tryd.ntmps3, st0_eq]
  have e1 := sum1_eq b
  repeat' first
    | refine W.seq ?_ | (refine W.regS G ?_; dsimp only) | refine SW.nil ?_ | refine thenQ_normal ?_ | refine W.skip ?_ | refine W.exit ?_ | refine thenQ_exit ?_ | refine inBlockQ_exit ?_ | refine inBlockQ_normal ?_ | refine W.block ?_
    | (apply SW.toC; refine SWcall.go (And.intro rsumS.eq_1 (And.intro newS.eq_1 e1)) ?_) | (apply SW.toOp; refine SWop.go (And.intro rsumS.eq_1 (And.intro newS.eq_1 e1)) ?_) | (apply SW.toCG; first | refine SWcall.yes (And.intro rsumS.eq_1 (And.intro newS.eq_1 e1)) ?_ | refine SWcall.no (And.intro rsumS.eq_1 (And.intro newS.eq_1 e1)) ?_) | (apply SW.toG; first | refine SWop.yes (And.intro rsumS.eq_1 (And.intro newS.eq_1 e1)) ?_ | refine SWop.no (And.intro rsumS.eq_1 (And.intro newS.eq_1 e1)) ?_)
  refine W.drawS G [[], [0], [1, 0], [2, 1, 0], [2, 1, 0], [3, 2, 1, 0, 4], [5, 3, 2, 1, 0, 4], [2, 1, 0], [6, 5, 3, 2, 1, 0, 4, 7], [2, 1, 0, 8, 6, 5, 3, 4, 7]] hmix ?_
  dsimp only
  repeat' first
    | (apply DW.nil; (focus (decide +kernel)))
    | (apply DW.toC; refine DWcall.go (And.intro rsumS.eq_1 (And.intro newS.eq_1 (And.intro e1 sum1S.eq_1))) ?_) | (apply DW.toOp; refine DWop.go (And.intro rsumS.eq_1 (And.intro newS.eq_1 (And.intro e1 sum1S.eq_1))) ?_) | (apply DW.toCG; first | refine DWcall.yes (And.intro rsumS.eq_1 (And.intro newS.eq_1 (And.intro e1 sum1S.eq_1))) ?_ | refine DWcall.no (And.intro rsumS.eq_1 (And.intro newS.eq_1 (And.intro e1 sum1S.eq_1))) ?_) | (apply DW.toG; first | refine DWop.yes (And.intro rsumS.eq_1 (And.intro newS.eq_1 (And.intro e1 sum1S.eq_1))) ?_ | refine DWop.no (And.intro rsumS.eq_1 (And.intro newS.eq_1 (And.intro e1 sum1S.eq_1))) ?_)
  repeat' first
    | refine W.seq ?_ | (refine W.regS G ?_; dsimp only) | refine SW.nil ?_ | refine thenQ_normal ?_ | refine W.skip ?_ | refine W.exit ?_ | refine thenQ_exit ?_ | refine inBlockQ_exit ?_ | refine inBlockQ_normal ?_ | refine W.block ?_
    | (apply SW.toC; refine SWcall.go (And.intro rsumS.eq_1 (And.intro newS.eq_1 e1)) ?_) | (apply SW.toOp; refine SWop.go (And.intro rsumS.eq_1 (And.intro newS.eq_1 e1)) ?_) | (apply SW.toCG; first | refine SWcall.yes (And.intro rsumS.eq_1 (And.intro newS.eq_1 e1)) ?_ | refine SWcall.no (And.intro rsumS.eq_1 (And.intro newS.eq_1 e1)) ?_) | (apply SW.toG; first | refine SWop.yes (And.intro rsumS.eq_1 (And.intro newS.eq_1 e1)) ?_ | refine SWop.no (And.intro rsumS.eq_1 (And.intro newS.eq_1 e1)) ?_)
  refine W.condZ G (And.intro rsumS.eq_1 (And.intro newS.eq_1 e1)) ?_ ?_
  all_goals intro hc
  · simp at hc
  have z := spo_zero b
  have z1 : begunB = (spo b 0).1.1 := by rw [z]
  have z2 : zeros 8 64 = (spo b 0).1.2.1 := by rw [z]
  have z3 : (0 : Int) = ((spo b 0).1.2.2 : Int) := by rw [z]; rfl
  have z4 : (0#64) = (spo b 0).2 := by rw [z]
  repeat' first
    | refine W.seq ?_ | (refine W.regS G ?_; dsimp only) | refine SW.nil ?_ | refine thenQ_normal ?_ | refine W.skip ?_ | refine W.exit ?_ | refine thenQ_exit ?_ | refine inBlockQ_exit ?_ | refine inBlockQ_normal ?_
    | (apply SW.toC; refine SWcall.go True.intro ?_) | (apply SW.toOp; refine SWop.go True.intro ?_) | (apply SW.toCG; first | refine SWcall.yes True.intro ?_ | refine SWcall.no True.intro ?_) | (apply SW.toG; first | refine SWop.yes True.intro ?_ | refine SWop.no True.intro ?_)
  refine W.midI (ι := {k : Nat // k ≤ b.length}) (fun k => sL [(0, .sl false (.u 8 b)), (4, .b false), (5, .p 5 0 0 0), (6, .p 12 0 0 0), (7, .i (k.1 : Nat))] [(5, .agg 32 (.u 8 (rhash b kB begunB))), (12, .st [.agg 8 (.u 32 (spo b (k.1)).1.1), .agg 64 (.u 8 (spo b (k.1)).1.2.1), .i ((spo b (k.1)).1.2.2 : Int), .u 64 (spo b (k.1)).2])] 75) ?_ ?_
  · repeat' first
      | refine W.seq ?_ | (refine W.regS G ?_; dsimp only) | refine SW.nil ?_ | refine thenQ_normal ?_ | refine W.skip ?_ | refine W.exit ?_ | refine thenQ_exit ?_ | refine inBlockQ_exit ?_ | refine inBlockQ_normal ?_ | refine W.block ?_
      | (apply SW.toC; refine SWcall.go True.intro ?_) | (apply SW.toOp; refine SWop.go True.intro ?_) | (apply SW.toCG; first | refine SWcall.yes True.intro ?_ | refine SWcall.no True.intro ?_) | (apply SW.toG; first | refine SWop.yes True.intro ?_ | refine SWop.no True.intro ?_)
    have a0 : atF b.length cuts 0 = 0 := rfl
    refine W.loopI (ι := {i : Nat // i ≤ cuts.length}) (fun i => sL [(0, .sl false (.u 8 b)), (1, .sl false (.u 16 cuts)), (4, .b false), (5, .p 5 0 0 0), (6, .p 12 0 0 0), (7, .i (atF b.length cuts i.1 : Nat)), (8, .i i.1)] [(5, .agg 32 (.u 8 (rhash b kB begunB))), (12, .st [.agg 8 (.u 32 (spo b (atF b.length cuts i.1)).1.1), .agg 64 (.u 8 (spo b (atF b.length cuts i.1)).1.2.1), .i ((spo b (atF b.length cuts i.1)).1.2.2 : Int), .u 64 (spo b (atF b.length cuts i.1)).2])] 75) (fun i => cuts.length - i.1) ⟨0, Nat.zero_le _⟩ (Imp.le ?_) ?_
    · exact sL_leZ (And.intro a0 z)
    rintro ⟨i, hi⟩
    have e : atF b.length cuts (i + 1) = atF b.length cuts i + (cuts.getD i 0).toNat % (b.length - atF b.length cuts i + 1) := itN_succ _ _ _
    have ha := atF_le b.length cuts i
    generalize atF b.length cuts i = a at e ha ⊢
    generalize hx : (cuts.getD i 0) = x at e
    by_cases h1 : i < cuts.length
    · by_cases h2 : a < b.length
      · have h1' : ((i : Int) < cuts.length) = True := eq_true (by omega)
        have h2' : ((a : Int) < b.length) = True := eq_true (by omega)
        obtain ⟨n, hn⟩ : ∃ n : Nat, n = x.toNat % (b.length - a + 1) := ⟨_, rfl⟩
        have hn2 : n < b.length - a + 1 := by rw [hn]; exact Nat.mod_lt _ (by omega)
        have hc : ((b.length : Int) - a + 1) = ((b.length - a + 1 : Nat) : Int) := by omega
        have hn3 : ((x.toNat : Int) % ((b.length : Int) - a + 1)) = (n : Int) := by rw [hn, hc]; rfl
        rw [← hn] at e
        have e2 : a + n - a = n := by omega
        obtain ⟨e3, e4⟩ := spo_step b a n (by omega)
        have l2 := subL_len b a n (by omega)
        obtain ⟨g1, g2, g3⟩ := spo_ok b a
        generalize hp : spo b a = p at e3 e4 g1 g2 g3 ⊢
        obtain ⟨⟨s1, s2, m⟩, q⟩ := p
        dsimp only at e3 e4 g1 g2 g3 ⊢
        repeat' first
          | refine W.seq ?_ | (refine W.regS G ?_; dsimp only) | refine SW.nil ?_ | refine thenQ_normal ?_ | refine W.skip ?_ | refine W.exit ?_ | refine thenQ_exit ?_ | refine inBlockQ_exit ?_ | refine inBlockQ_normal ?_ | refine W.block ?_
          | (apply SW.toC; refine SWcall.go (And.intro h1' h2') ?_) | (apply SW.toOp; refine SWop.go (And.intro h1' h2') ?_) | (apply SW.toCG; first | refine SWcall.yes (And.intro h1' h2') ?_ | refine SWcall.no (And.intro h1' h2') ?_) | (apply SW.toG; first | refine SWop.yes (And.intro h1' h2') ?_ | refine SWop.no (And.intro h1' h2') ?_)
        refine W.condZ G (And.intro h1' h2') ?_ ?_
        all_goals intro hd
        · obtain ⟨k1, k2, k3⟩ := spo_ok b (a + n)
          repeat' first
            | refine W.seq ?_ | (refine W.regS G ?_; dsimp only) | refine SW.nil ?_ | refine thenQ_normal ?_ | refine W.skip ?_ | refine W.exit ?_ | refine thenQ_exit ?_ | refine inBlockQ_exit ?_ | refine inBlockQ_normal ?_
            | (apply SW.toC; refine SWcall.go (And.intro hx (And.intro hn3 (And.intro e2 (And.intro l2 (And.intro writeS.eq_1 (And.intro g1 (And.intro g2 (And.intro e3 e4)))))))) ?_) | (apply SW.toOp; refine SWop.go (And.intro hx (And.intro hn3 (And.intro e2 (And.intro l2 (And.intro writeS.eq_1 (And.intro g1 (And.intro g2 (And.intro e3 e4)))))))) ?_) | (apply SW.toCG; first | refine SWcall.yes (And.intro hx (And.intro hn3 (And.intro e2 (And.intro l2 (And.intro writeS.eq_1 (And.intro g1 (And.intro g2 (And.intro e3 e4)))))))) ?_ | refine SWcall.no (And.intro hx (And.intro hn3 (And.intro e2 (And.intro l2 (And.intro writeS.eq_1 (And.intro g1 (And.intro g2 (And.intro e3 e4)))))))) ?_) | (apply SW.toG; first | refine SWop.yes (And.intro hx (And.intro hn3 (And.intro e2 (And.intro l2 (And.intro writeS.eq_1 (And.intro g1 (And.intro g2 (And.intro e3 e4)))))))) ?_ | refine SWop.no (And.intro hx (And.intro hn3 (And.intro e2 (And.intro l2 (And.intro writeS.eq_1 (And.intro g1 (And.intro g2 (And.intro e3 e4)))))))) ?_)
          refine W.block ?_
          repeat' first
            | refine W.seq ?_ | (refine W.regS G ?_; dsimp only) | refine SW.nil ?_ | refine thenQ_normal ?_ | refine W.skip ?_ | refine W.exit ?_ | refine thenQ_exit ?_ | refine inBlockQ_exit ?_ | refine inBlockQ_normal ?_ | refine W.block ?_
            | (apply SW.toC; refine SWcall.go (And.intro hx (And.intro hn3 (And.intro e2 (And.intro l2 (And.intro writeS.eq_1 (And.intro g1 (And.intro g2 (And.intro e3 (And.intro e4 (And.intro msumS.eq_1 (And.intro k1 k2))))))))))) ?_) | (apply SW.toOp; refine SWop.go (And.intro hx (And.intro hn3 (And.intro e2 (And.intro l2 (And.intro writeS.eq_1 (And.intro g1 (And.intro g2 (And.intro e3 (And.intro e4 (And.intro msumS.eq_1 (And.intro k1 k2))))))))))) ?_) | (apply SW.toCG; first | refine SWcall.yes (And.intro hx (And.intro hn3 (And.intro e2 (And.intro l2 (And.intro writeS.eq_1 (And.intro g1 (And.intro g2 (And.intro e3 (And.intro e4 (And.intro msumS.eq_1 (And.intro k1 k2))))))))))) ?_ | refine SWcall.no (And.intro hx (And.intro hn3 (And.intro e2 (And.intro l2 (And.intro writeS.eq_1 (And.intro g1 (And.intro g2 (And.intro e3 (And.intro e4 (And.intro msumS.eq_1 (And.intro k1 k2))))))))))) ?_) | (apply SW.toG; first | refine SWop.yes (And.intro hx (And.intro hn3 (And.intro e2 (And.intro l2 (And.intro writeS.eq_1 (And.intro g1 (And.intro g2 (And.intro e3 (And.intro e4 (And.intro msumS.eq_1 (And.intro k1 k2))))))))))) ?_ | refine SWop.no (And.intro hx (And.intro hn3 (And.intro e2 (And.intro l2 (And.intro writeS.eq_1 (And.intro g1 (And.intro g2 (And.intro e3 (And.intro e4 (And.intro msumS.eq_1 (And.intro k1 k2))))))))))) ?_)
          have e5 : ((a : Int) + n) = ((a + n : Nat) : Int) := by omega
          refine ⟨⟨i + 1, by omega⟩, Imp.le ?_, by show _ - (i + 1) < _ - i; omega⟩
          exact sL_leZ (And.intro e (And.intro e5 (And.intro hx (And.intro hn3 (And.intro e2 (And.intro l2 (And.intro writeS.eq_1 (And.intro g1 (And.intro g2 (And.intro e3 (And.intro e4 (And.intro msumS.eq_1 (And.intro k1 k2)))))))))))))
        · simp at hd
      · have h1' : ((i : Int) < cuts.length) = True := eq_true (by omega)
        have h2' : ((a : Int) < b.length) = False := eq_false (by omega)
        repeat' first
          | refine W.seq ?_ | (refine W.regS G ?_; dsimp only) | refine SW.nil ?_ | refine thenQ_normal ?_ | refine W.skip ?_ | refine W.exit ?_ | refine thenQ_exit ?_ | refine inBlockQ_exit ?_ | refine inBlockQ_normal ?_ | refine W.block ?_
          | (apply SW.toC; refine SWcall.go (And.intro h1' h2') ?_) | (apply SW.toOp; refine SWop.go (And.intro h1' h2') ?_) | (apply SW.toCG; first | refine SWcall.yes (And.intro h1' h2') ?_ | refine SWcall.no (And.intro h1' h2') ?_) | (apply SW.toG; first | refine SWop.yes (And.intro h1' h2') ?_ | refine SWop.no (And.intro h1' h2') ?_)
        refine W.condZ G (And.intro h1' h2') ?_ ?_
        all_goals intro hd
        · simp at hd
        repeat' first
          | refine W.seq ?_ | (refine W.regS G ?_; dsimp only) | refine SW.nil ?_ | refine thenQ_normal ?_ | refine W.skip ?_ | refine W.exit ?_ | refine thenQ_exit ?_ | refine inBlockQ_exit ?_ | refine inBlockQ_normal ?_ | refine W.block ?_
          | (apply SW.toC; refine SWcall.go (And.intro h1' h2') ?_) | (apply SW.toOp; refine SWop.go (And.intro h1' h2') ?_) | (apply SW.toCG; first | refine SWcall.yes (And.intro h1' h2') ?_ | refine SWcall.no (And.intro h1' h2') ?_) | (apply SW.toG; first | refine SWop.yes (And.intro h1' h2') ?_ | refine SWop.no (And.intro h1' h2') ?_)
        refine ⟨⟨a, ha⟩, Imp.le ?_⟩
        exact sL_leZ (And.intro h1' h2')
    · have h1' : ((i : Int) < cuts.length) = False := eq_false (by omega)
      repeat' first
        | refine W.seq ?_ | (refine W.regS G ?_; dsimp only) | refine SW.nil ?_ | refine thenQ_normal ?_ | refine W.skip ?_ | refine W.exit ?_ | refine thenQ_exit ?_ | refine inBlockQ_exit ?_ | refine inBlockQ_normal ?_ | refine W.block ?_
        | (apply SW.toC; refine SWcall.go h1' ?_) | (apply SW.toOp; refine SWop.go h1' ?_) | (apply SW.toCG; first | refine SWcall.yes h1' ?_ | refine SWcall.no h1' ?_) | (apply SW.toG; first | refine SWop.yes h1' ?_ | refine SWop.no h1' ?_)
      refine W.condZ G h1' ?_ ?_
      all_goals intro hd
      · simp at hd
      repeat' first
        | refine W.seq ?_ | (refine W.regS G ?_; dsimp only) | refine SW.nil ?_ | refine thenQ_normal ?_ | refine W.skip ?_ | refine W.exit ?_ | refine thenQ_exit ?_ | refine inBlockQ_exit ?_ | refine inBlockQ_normal ?_ | refine W.block ?_
        | (apply SW.toC; refine SWcall.go h1' ?_) | (apply SW.toOp; refine SWop.go h1' ?_) | (apply SW.toCG; first | refine SWcall.yes h1' ?_ | refine SWcall.no h1' ?_) | (apply SW.toG; first | refine SWop.yes h1' ?_ | refine SWop.no h1' ?_)
      refine ⟨⟨a, ha⟩, Imp.le ?_⟩
      exact sL_leZ h1'
  rintro ⟨a, ha⟩
  have l4 := subL_len b a (b.length - a) (by omega)
  obtain ⟨e3, e4⟩ := spo_step b a (b.length - a) (by omega)
  have e8 : a + (b.length - a) = b.length := by omega
  rw [e8] at e3 e4
  obtain ⟨g1, g2, g3⟩ := spo_ok b a
  obtain ⟨k1, k2, k3⟩ := spo_ok b b.length
  have hq := spo_all b
  have hq2 : hashF ((spo b b.length).1.1, (spo b b.length).1.2.1, (spo b b.length).1.2.2) (spo b b.length).2 = rhash b kB begunB := hq
  generalize hp : spo b a = p at e3 e4 g1 g2 g3 ⊢
  obtain ⟨⟨s1, s2, m⟩, q⟩ := p
  dsimp only at e3 e4 g1 g2 g3 ⊢
  generalize rhash b kB begunB = H at hq2 ⊢
  repeat' first
    | refine W.seq ?_ | (refine W.regS G ?_; dsimp only) | refine SW.nil ?_ | refine thenQ_normal ?_ | refine W.skip ?_ | refine W.exit ?_ | refine thenQ_exit ?_ | refine inBlockQ_exit ?_ | refine inBlockQ_normal ?_ | refine W.block ?_
    | (apply SW.toC; refine SWcall.go (And.intro l4 (And.intro writeS.eq_1 (And.intro g1 (And.intro g2 (And.intro e3 e4))))) ?_) | (apply SW.toOp; refine SWop.go (And.intro l4 (And.intro writeS.eq_1 (And.intro g1 (And.intro g2 (And.intro e3 e4))))) ?_) | (apply SW.toCG; first | refine SWcall.yes (And.intro l4 (And.intro writeS.eq_1 (And.intro g1 (And.intro g2 (And.intro e3 e4))))) ?_ | refine SWcall.no (And.intro l4 (And.intro writeS.eq_1 (And.intro g1 (And.intro g2 (And.intro e3 e4))))) ?_) | (apply SW.toG; first | refine SWop.yes (And.intro l4 (And.intro writeS.eq_1 (And.intro g1 (And.intro g2 (And.intro e3 e4))))) ?_ | refine SWop.no (And.intro l4 (And.intro writeS.eq_1 (And.intro g1 (And.intro g2 (And.intro e3 e4))))) ?_)
  refine W.drawS G [[], [0], [], [1, 0, 2], [3, 1, 0, 2], [4, 3, 1, 0, 2], [4, 3, 1, 0, 2, 5], [6, 4, 3, 1, 0, 2, 5]] hmix ?_
  dsimp only
  repeat' first
    | (apply DW.nil; (focus (decide +kernel)))
    | (apply DW.toC; refine DWcall.go (And.intro l4 (And.intro writeS.eq_1 (And.intro g1 (And.intro g2 (And.intro e3 (And.intro e4 (And.intro msumS.eq_1 (And.intro k1 (And.intro k2 (And.intro hq2 liveS.eq_1)))))))))) ?_) | (apply DW.toOp; refine DWop.go (And.intro l4 (And.intro writeS.eq_1 (And.intro g1 (And.intro g2 (And.intro e3 (And.intro e4 (And.intro msumS.eq_1 (And.intro k1 (And.intro k2 (And.intro hq2 liveS.eq_1)))))))))) ?_) | (apply DW.toCG; first | refine DWcall.yes (And.intro l4 (And.intro writeS.eq_1 (And.intro g1 (And.intro g2 (And.intro e3 (And.intro e4 (And.intro msumS.eq_1 (And.intro k1 (And.intro k2 (And.intro hq2 liveS.eq_1)))))))))) ?_ | refine DWcall.no (And.intro l4 (And.intro writeS.eq_1 (And.intro g1 (And.intro g2 (And.intro e3 (And.intro e4 (And.intro msumS.eq_1 (And.intro k1 (And.intro k2 (And.intro hq2 liveS.eq_1)))))))))) ?_) | (apply DW.toG; first | refine DWop.yes (And.intro l4 (And.intro writeS.eq_1 (And.intro g1 (And.intro g2 (And.intro e3 (And.intro e4 (And.intro msumS.eq_1 (And.intro k1 (And.intro k2 (And.intro hq2 liveS.eq_1)))))))))) ?_ | refine DWop.no (And.intro l4 (And.intro writeS.eq_1 (And.intro g1 (And.intro g2 (And.intro e3 (And.intro e4 (And.intro msumS.eq_1 (And.intro k1 (And.intro k2 (And.intro hq2 liveS.eq_1)))))))))) ?_)
  repeat' first
    | refine W.seq ?_ | (refine W.regS G ?_; dsimp only) | refine SW.nil ?_ | refine thenQ_normal ?_ | refine W.skip ?_ | refine W.exit ?_ | refine thenQ_exit ?_ | refine inBlockQ_exit ?_ | refine inBlockQ_normal ?_ | refine W.block ?_
    | (apply SW.toC; refine SWcall.go (And.intro l4 (And.intro writeS.eq_1 (And.intro g1 (And.intro g2 (And.intro e3 e4))))) ?_) | (apply SW.toOp; refine SWop.go (And.intro l4 (And.intro writeS.eq_1 (And.intro g1 (And.intro g2 (And.intro e3 e4))))) ?_) | (apply SW.toCG; first | refine SWcall.yes (And.intro l4 (And.intro writeS.eq_1 (And.intro g1 (And.intro g2 (And.intro e3 e4))))) ?_ | refine SWcall.no (And.intro l4 (And.intro writeS.eq_1 (And.intro g1 (And.intro g2 (And.intro e3 e4))))) ?_) | (apply SW.toG; first | refine SWop.yes (And.intro l4 (And.intro writeS.eq_1 (And.intro g1 (And.intro g2 (And.intro e3 e4))))) ?_ | refine SWop.no (And.intro l4 (And.intro writeS.eq_1 (And.intro g1 (And.intro g2 (And.intro e3 e4))))) ?_)
  refine W.ret ?_
  repeat' first
    | refine thenQ_ret ?_
    | refine inBlockQ_ret ?_
  refine fin1Z (And.intro l4 (And.intro writeS.eq_1 (And.intro g1 (And.intro g2 (And.intro e3 e4))))) ?_
  exact leV_refl
end Go.Vm.C04

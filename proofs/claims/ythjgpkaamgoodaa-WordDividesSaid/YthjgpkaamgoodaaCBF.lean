/- What some functions of the program compute, walked through once. -/
import Derived.Test.YthjgpkaamgoodaaCBE
import Derived.Test.YthjgpkaamgoodaaCP
namespace Go.Vm.C01
open Go Go.Proofs
set_option linter.unusedVariables false
set_option linter.unusedSimpArgs false
set_option maxRecDepth 100000
set_option maxHeartbeats 8000000

theorem sx_sx (a : List (BitVec 64)) (n : Nat) : sxF (sxF a n) n = sxF a n := by
  unfold sxF
  by_cases h : 31 ≤ n
  · rw [if_pos h, if_pos h]
  · rw [if_neg h, if_neg h]
    refine wB_congr fun i hi => ?_
    unfold sxB
    by_cases h1 : i ≤ 8 * n + 7
    · rw [if_pos h1, bitAt_wB _ _ hi, if_pos h1]
    · rw [if_neg h1, bitAt_wB _ _ (by omega), if_pos (by omega)]
theorem sxF_len {a : List (BitVec 64)} {n : Nat} (h : a.length = 4) : (sxF a n).length = 4 := by
  unfold sxF
  split
  · exact h
  · exact wB_len _
theorem byF_len {a : List (BitVec 64)} {n : Nat} : (byF a n).length = 4 := by
  unfold byF
  split
  · rfl
  · exact wOf_len _
theorem byte_step (a : List (BitVec 64)) (i : Nat) (hi : i < 32) : wOf (wv (wOf (wv (wOf (wv a / 256 ^ (32 - i))) * wv (wOf 256))) + wv (byF a i)) = wOf (wv a / 256 ^ (32 - (i + 1))) := by
  have hf : byF a i = wOf (wv a / 256 ^ (31 - i) % 256) := by unfold byF; exact if_neg (by omega)
  rw [hf, show 32 - (i + 1) = 31 - i from by omega, show 32 - i = (31 - i) + 1 from by omega, Nat.pow_succ, ← Nat.div_div_eq_div_mul]
  generalize wv a / 256 ^ (31 - i) = x
  rw [wv_wOf, wv_wOf, wv_wOf, wv_wOf]
  refine wOf_eq ?_
  unfold B256
  omega
theorem not_not (a : List (BitVec 64)) (h : a.length = 4) : wOf (B256 - 1 - wv (wOf (B256 - 1 - wv a))) = a := by
  have h1 := wv_lt a
  rw [wv_wOf, Nat.mod_eq_of_lt (by omega), show B256 - 1 - (B256 - 1 - wv a) = wv a from by omega, wOf_wv a h]
theorem add_not (a : List (BitVec 64)) : wOf (wv a + wv (wOf (B256 - 1 - wv a))) = wOf (B256 - 1 - wv (zeros 64 4)) := by
  have h1 := wv_lt a
  have hz : wv (zeros 64 4) = 0 := wvk_zeros 4 4
  rw [wv_wOf, Nat.mod_eq_of_lt (by omega), hz]
  congr 1
  omega
noncomputable def signsS : FSpec := { run := fun ins => match ins with
  | [.agg 4 (.u 64 k), .agg 4 (.u 64 a)] => chk (k.length = 4 ∧ a.length = 4) (some (.b true, []))
  | _ => none }
theorem signs_sound : SoundFn Try.prog glB 3 signsS.run := by
  have G := good_of (P := Try.prog) glB_ro (l := [(13, SxS), (14, AddS), (15, MulS), (16, OfS), (17, ByteS), (18, NotS), (19, livesS)]) (by simp only [List.forall_mem_cons]; exact ⟨Sx_sound, Add_sound, Mul_sound, Of_sound, Byte_sound, Not_sound, lives_sound, by simp⟩)
  refine soundFn_of_W G Try.func3 (by decide) rfl (by decide) ?_
  intro ins ret outs h
  unfold signsS at h
  dsimp only at h
  split at h
  rotate_left
  · cases h
  rename_i k a
  obtain ⟨hl, h'⟩ := chk_some h
  clear h
  cases h'
  obtain ⟨lk, la⟩ := hl
  refine ⟨by show 2 ≤ 51; decide, fun w0 ext av => ?_⟩
  rw [Try.ntmps3, st0_eq]
  have f1 := sx_sx a (wv k)
  have l1 : (sxF a (wv k)).length = 4 := sxF_len la
  generalize hs : sxF a (wv k) = s at f1 l1
  repeat' first
    | refine W.seq ?_ | (refine W.regS G ?_; dsimp only) | refine SW.nil ?_ | refine thenQ_normal ?_ | refine W.skip ?_ | refine W.exit ?_ | refine thenQ_exit ?_ | refine inBlockQ_exit ?_ | refine inBlockQ_normal ?_
    | (apply SW.toC; refine SWcall.go (And.intro SxS.eq_1 (And.intro la (And.intro hs (And.intro f1 l1)))) ?_) | (apply SW.toOp; refine SWop.go (And.intro SxS.eq_1 (And.intro la (And.intro hs (And.intro f1 l1)))) ?_) | (apply SW.toCG; first | refine SWcall.yes (And.intro SxS.eq_1 (And.intro la (And.intro hs (And.intro f1 l1)))) ?_ | refine SWcall.no (And.intro SxS.eq_1 (And.intro la (And.intro hs (And.intro f1 l1)))) ?_) | (apply SW.toG; first | refine SWop.yes (And.intro SxS.eq_1 (And.intro la (And.intro hs (And.intro f1 l1)))) ?_ | refine SWop.no (And.intro SxS.eq_1 (And.intro la (And.intro hs (And.intro f1 l1)))) ?_)
  refine W.drawS G [[], [], [0, 1], [], [2, 0, 1, 3]] hmix ?_
  dsimp only
  repeat' first
    | (apply DW.nil; (focus (decide +kernel)))
    | (apply DW.toC; refine DWcall.go (And.intro SxS.eq_1 (And.intro la (And.intro hs (And.intro f1 l1)))) ?_) | (apply DW.toOp; refine DWop.go (And.intro SxS.eq_1 (And.intro la (And.intro hs (And.intro f1 l1)))) ?_) | (apply DW.toCG; first | refine DWcall.yes (And.intro SxS.eq_1 (And.intro la (And.intro hs (And.intro f1 l1)))) ?_ | refine DWcall.no (And.intro SxS.eq_1 (And.intro la (And.intro hs (And.intro f1 l1)))) ?_) | (apply DW.toG; first | refine DWop.yes (And.intro SxS.eq_1 (And.intro la (And.intro hs (And.intro f1 l1)))) ?_ | refine DWop.no (And.intro SxS.eq_1 (And.intro la (And.intro hs (And.intro f1 l1)))) ?_)
  repeat' first
    | refine W.seq ?_ | (refine W.regS G ?_; dsimp only) | refine SW.nil ?_ | refine thenQ_normal ?_ | refine W.skip ?_ | refine W.exit ?_ | refine thenQ_exit ?_ | refine inBlockQ_exit ?_ | refine inBlockQ_normal ?_ | refine W.block ?_
    | (apply SW.toC; refine SWcall.go (And.intro SxS.eq_1 (And.intro la (And.intro hs (And.intro f1 l1)))) ?_) | (apply SW.toOp; refine SWop.go (And.intro SxS.eq_1 (And.intro la (And.intro hs (And.intro f1 l1)))) ?_) | (apply SW.toCG; first | refine SWcall.yes (And.intro SxS.eq_1 (And.intro la (And.intro hs (And.intro f1 l1)))) ?_ | refine SWcall.no (And.intro SxS.eq_1 (And.intro la (And.intro hs (And.intro f1 l1)))) ?_) | (apply SW.toG; first | refine SWop.yes (And.intro SxS.eq_1 (And.intro la (And.intro hs (And.intro f1 l1)))) ?_ | refine SWop.no (And.intro SxS.eq_1 (And.intro la (And.intro hs (And.intro f1 l1)))) ?_)
  refine W.condZ G (And.intro SxS.eq_1 (And.intro la (And.intro hs (And.intro f1 l1)))) ?_ ?_
  all_goals intro k1
  · exact absurd k1 (by decide)
  have z0 : wOf (wv a / 256 ^ 32) = zeros 64 4 := by
    rw [Nat.div_eq_of_lt (Nat.lt_of_lt_of_eq (wv_lt a) (by decide))]
    rfl
  repeat' first
    | refine W.seq ?_ | (refine W.regS G ?_; dsimp only) | refine SW.nil ?_ | refine thenQ_normal ?_ | refine W.skip ?_ | refine W.exit ?_ | refine thenQ_exit ?_ | refine inBlockQ_exit ?_ | refine inBlockQ_normal ?_ | refine W.block ?_
    | (apply SW.toC; refine SWcall.go True.intro ?_) | (apply SW.toOp; refine SWop.go True.intro ?_) | (apply SW.toCG; first | refine SWcall.yes True.intro ?_ | refine SWcall.no True.intro ?_) | (apply SW.toG; first | refine SWop.yes True.intro ?_ | refine SWop.no True.intro ?_)
  refine W.loopI (ι := {i : Nat // i ≤ 32}) (fun i => sL [(2, .p 2 0 0 0), (3, .p 3 0 0 0), (6, .p 6 0 0 0), (7, .u 64 (BitVec.ofNat 64 i.1))] [(2, .agg 4 (.u 64 k)), (3, .agg 4 (.u 64 a)), (6, .agg 4 (.u 64 (wOf (wv a / 256 ^ (32 - i.1)))))] 51) (fun i => 32 - i.1) ⟨0, Nat.zero_le _⟩ (Imp.le ?_) ?_
  · exact sL_leZ z0
  rintro ⟨i, hi⟩
  have eN : (BitVec.ofNat 64 i).toNat = i := by rw [BitVec.toNat_ofNat]; omega
  have hlt : BitVec.ofNat 64 i < 32#64 ↔ i < 32 := by show (BitVec.ofNat 64 i).toNat < 32 ↔ _; rw [eN]
  have em : i % 18446744073709551616 = i := by omega
  repeat' first
    | refine W.seq ?_ | (refine W.regS G ?_; dsimp only) | refine SW.nil ?_ | refine thenQ_normal ?_ | refine W.skip ?_ | refine W.exit ?_ | refine thenQ_exit ?_ | refine inBlockQ_exit ?_ | refine inBlockQ_normal ?_ | refine W.block ?_
    | (apply SW.toC; refine SWcall.go True.intro ?_) | (apply SW.toOp; refine SWop.go True.intro ?_) | (apply SW.toCG; first | refine SWcall.yes True.intro ?_ | refine SWcall.no True.intro ?_) | (apply SW.toG; first | refine SWop.yes True.intro ?_ | refine SWop.no True.intro ?_)
  refine W.condZ G True.intro ?_ ?_
  all_goals intro ht
  · have ht' := of_decide_eq_true ht
    have ht' := hlt.1 ht'
    have hb := byte_step a i ht'
    have ew : wv (wOf i) = i := by rw [wv_wOf]; exact Nat.mod_eq_of_lt (by unfold B256; omega)
    have en : BitVec.ofNat 64 i + 1#64 = BitVec.ofNat 64 (i + 1) := by rw [BitVec.ofNat_add]
    repeat' first
      | refine W.seq ?_ | (refine W.regS G ?_; dsimp only) | refine SW.nil ?_ | refine thenQ_normal ?_ | refine W.skip ?_ | refine W.exit ?_ | refine thenQ_exit ?_ | refine inBlockQ_exit ?_ | refine inBlockQ_normal ?_
      | (apply SW.toC; refine SWcall.go (And.intro AddS.eq_1 (And.intro MulS.eq_1 (And.intro OfS.eq_1 (And.intro ByteS.eq_1 (And.intro la (And.intro em (And.intro ew (And.intro hb en)))))))) ?_) | (apply SW.toOp; refine SWop.go (And.intro AddS.eq_1 (And.intro MulS.eq_1 (And.intro OfS.eq_1 (And.intro ByteS.eq_1 (And.intro la (And.intro em (And.intro ew (And.intro hb en)))))))) ?_) | (apply SW.toCG; first | refine SWcall.yes (And.intro AddS.eq_1 (And.intro MulS.eq_1 (And.intro OfS.eq_1 (And.intro ByteS.eq_1 (And.intro la (And.intro em (And.intro ew (And.intro hb en)))))))) ?_ | refine SWcall.no (And.intro AddS.eq_1 (And.intro MulS.eq_1 (And.intro OfS.eq_1 (And.intro ByteS.eq_1 (And.intro la (And.intro em (And.intro ew (And.intro hb en)))))))) ?_) | (apply SW.toG; first | refine SWop.yes (And.intro AddS.eq_1 (And.intro MulS.eq_1 (And.intro OfS.eq_1 (And.intro ByteS.eq_1 (And.intro la (And.intro em (And.intro ew (And.intro hb en)))))))) ?_ | refine SWop.no (And.intro AddS.eq_1 (And.intro MulS.eq_1 (And.intro OfS.eq_1 (And.intro ByteS.eq_1 (And.intro la (And.intro em (And.intro ew (And.intro hb en)))))))) ?_)
    refine W.block ?_
    repeat' first
      | refine W.seq ?_ | (refine W.regS G ?_; dsimp only) | refine SW.nil ?_ | refine thenQ_normal ?_ | refine W.skip ?_ | refine W.exit ?_ | refine thenQ_exit ?_ | refine inBlockQ_exit ?_ | refine inBlockQ_normal ?_
      | (apply SW.toC; refine SWcall.go (And.intro AddS.eq_1 (And.intro MulS.eq_1 (And.intro OfS.eq_1 (And.intro ByteS.eq_1 (And.intro la (And.intro em (And.intro ew (And.intro hb en)))))))) ?_) | (apply SW.toOp; refine SWop.go (And.intro AddS.eq_1 (And.intro MulS.eq_1 (And.intro OfS.eq_1 (And.intro ByteS.eq_1 (And.intro la (And.intro em (And.intro ew (And.intro hb en)))))))) ?_) | (apply SW.toCG; first | refine SWcall.yes (And.intro AddS.eq_1 (And.intro MulS.eq_1 (And.intro OfS.eq_1 (And.intro ByteS.eq_1 (And.intro la (And.intro em (And.intro ew (And.intro hb en)))))))) ?_ | refine SWcall.no (And.intro AddS.eq_1 (And.intro MulS.eq_1 (And.intro OfS.eq_1 (And.intro ByteS.eq_1 (And.intro la (And.intro em (And.intro ew (And.intro hb en)))))))) ?_) | (apply SW.toG; first | refine SWop.yes (And.intro AddS.eq_1 (And.intro MulS.eq_1 (And.intro OfS.eq_1 (And.intro ByteS.eq_1 (And.intro la (And.intro em (And.intro ew (And.intro hb en)))))))) ?_ | refine SWop.no (And.intro AddS.eq_1 (And.intro MulS.eq_1 (And.intro OfS.eq_1 (And.intro ByteS.eq_1 (And.intro la (And.intro em (And.intro ew (And.intro hb en)))))))) ?_)
    refine W.drawS G [[], [], [0, 1], [], [3, 2, 0, 1], [], [4, 3, 2, 0, 1, 5], [2, 0, 1, 6, 4, 3, 5], [7, 2, 0, 1, 6, 4, 3, 5]] hmix ?_
    dsimp only
    repeat' first
      | (apply DW.nil; (focus (decide +kernel)))
      | (apply DW.toC; refine DWcall.go (And.intro AddS.eq_1 (And.intro MulS.eq_1 (And.intro OfS.eq_1 (And.intro ByteS.eq_1 (And.intro la (And.intro em (And.intro ew (And.intro hb en)))))))) ?_) | (apply DW.toOp; refine DWop.go (And.intro AddS.eq_1 (And.intro MulS.eq_1 (And.intro OfS.eq_1 (And.intro ByteS.eq_1 (And.intro la (And.intro em (And.intro ew (And.intro hb en)))))))) ?_) | (apply DW.toCG; first | refine DWcall.yes (And.intro AddS.eq_1 (And.intro MulS.eq_1 (And.intro OfS.eq_1 (And.intro ByteS.eq_1 (And.intro la (And.intro em (And.intro ew (And.intro hb en)))))))) ?_ | refine DWcall.no (And.intro AddS.eq_1 (And.intro MulS.eq_1 (And.intro OfS.eq_1 (And.intro ByteS.eq_1 (And.intro la (And.intro em (And.intro ew (And.intro hb en)))))))) ?_) | (apply DW.toG; first | refine DWop.yes (And.intro AddS.eq_1 (And.intro MulS.eq_1 (And.intro OfS.eq_1 (And.intro ByteS.eq_1 (And.intro la (And.intro em (And.intro ew (And.intro hb en)))))))) ?_ | refine DWop.no (And.intro AddS.eq_1 (And.intro MulS.eq_1 (And.intro OfS.eq_1 (And.intro ByteS.eq_1 (And.intro la (And.intro em (And.intro ew (And.intro hb en)))))))) ?_)
    repeat' first
      | refine W.seq ?_ | (refine W.regS G ?_; dsimp only) | refine SW.nil ?_ | refine thenQ_normal ?_ | refine W.skip ?_ | refine W.exit ?_ | refine thenQ_exit ?_ | refine inBlockQ_exit ?_ | refine inBlockQ_normal ?_ | refine W.block ?_
      | (apply SW.toC; refine SWcall.go (And.intro AddS.eq_1 (And.intro MulS.eq_1 (And.intro OfS.eq_1 (And.intro ByteS.eq_1 (And.intro la (And.intro em (And.intro ew (And.intro hb en)))))))) ?_) | (apply SW.toOp; refine SWop.go (And.intro AddS.eq_1 (And.intro MulS.eq_1 (And.intro OfS.eq_1 (And.intro ByteS.eq_1 (And.intro la (And.intro em (And.intro ew (And.intro hb en)))))))) ?_) | (apply SW.toCG; first | refine SWcall.yes (And.intro AddS.eq_1 (And.intro MulS.eq_1 (And.intro OfS.eq_1 (And.intro ByteS.eq_1 (And.intro la (And.intro em (And.intro ew (And.intro hb en)))))))) ?_ | refine SWcall.no (And.intro AddS.eq_1 (And.intro MulS.eq_1 (And.intro OfS.eq_1 (And.intro ByteS.eq_1 (And.intro la (And.intro em (And.intro ew (And.intro hb en)))))))) ?_) | (apply SW.toG; first | refine SWop.yes (And.intro AddS.eq_1 (And.intro MulS.eq_1 (And.intro OfS.eq_1 (And.intro ByteS.eq_1 (And.intro la (And.intro em (And.intro ew (And.intro hb en)))))))) ?_ | refine SWop.no (And.intro AddS.eq_1 (And.intro MulS.eq_1 (And.intro OfS.eq_1 (And.intro ByteS.eq_1 (And.intro la (And.intro em (And.intro ew (And.intro hb en)))))))) ?_)
    refine ⟨⟨i + 1, by omega⟩, Imp.le ?_, by show _ - (i + 1) < _ - i; omega⟩
    exact sL_leZ (And.intro AddS.eq_1 (And.intro MulS.eq_1 (And.intro OfS.eq_1 (And.intro ByteS.eq_1 (And.intro la (And.intro em (And.intro ew (And.intro hb en))))))))
  have ht' := of_decide_eq_false ht
  have ht' : ¬ i < 32 := fun c => ht' (hlt.2 c)
  obtain rfl : i = 32 := by omega
  have e1 : wOf (wv a / 256 ^ (32 - 32)) = a := by rw [Nat.sub_self, Nat.pow_zero, Nat.div_one, wOf_wv a la]
  rw [e1]
  have e2 := not_not a la
  have lz : (zeros 64 4).length = 4 := rfl
  have e3 := add_not a
  repeat' first
    | refine W.seq ?_ | (refine W.regS G ?_; dsimp only) | refine SW.nil ?_ | refine thenQ_normal ?_ | refine W.skip ?_ | refine W.exit ?_ | refine thenQ_exit ?_ | refine inBlockQ_exit ?_ | refine inBlockQ_normal ?_ | refine W.block ?_
    | (apply SW.toC; refine SWcall.go (And.intro AddS.eq_1 (And.intro NotS.eq_1 (And.intro livesS.eq_1 (And.intro la (And.intro lz (And.intro e2 e3)))))) ?_) | (apply SW.toOp; refine SWop.go (And.intro AddS.eq_1 (And.intro NotS.eq_1 (And.intro livesS.eq_1 (And.intro la (And.intro lz (And.intro e2 e3)))))) ?_) | (apply SW.toCG; first | refine SWcall.yes (And.intro AddS.eq_1 (And.intro NotS.eq_1 (And.intro livesS.eq_1 (And.intro la (And.intro lz (And.intro e2 e3)))))) ?_ | refine SWcall.no (And.intro AddS.eq_1 (And.intro NotS.eq_1 (And.intro livesS.eq_1 (And.intro la (And.intro lz (And.intro e2 e3)))))) ?_) | (apply SW.toG; first | refine SWop.yes (And.intro AddS.eq_1 (And.intro NotS.eq_1 (And.intro livesS.eq_1 (And.intro la (And.intro lz (And.intro e2 e3)))))) ?_ | refine SWop.no (And.intro AddS.eq_1 (And.intro NotS.eq_1 (And.intro livesS.eq_1 (And.intro la (And.intro lz (And.intro e2 e3)))))) ?_)
  refine W.drawS G [[], [], [0, 1], [2, 0, 1], [3, 2, 0, 1], [4, 3, 2, 0, 1], [5, 4, 3, 2, 0, 1], [3, 2, 0, 1], [6, 5, 4, 3, 2, 0, 1, 7], [3, 2, 0, 1, 8, 6, 5, 4, 7], [9, 3, 2, 0, 1, 8, 6, 5, 4, 7], [10, 9, 3, 2, 0, 1, 8, 6, 5, 4, 7], [10, 9, 3, 2, 0, 1, 8, 6, 5, 4, 7], [12, 10, 9, 3, 2, 0, 1, 8, 6, 5, 4, 7], [11, 10, 9, 3, 2, 0, 1, 8, 6, 5, 4, 7, 13, 12], [10, 9, 3, 2, 0, 1, 8, 6, 5, 4, 7], [15, 10, 9, 3, 2, 0, 1, 8, 6, 5, 4, 7, 14, 11, 13, 12], [14, 11, 10, 9, 3, 2, 0, 1, 8, 6, 5, 4, 7, 13, 12, 16, 15], [10, 9, 3, 2, 0, 1, 8, 6, 5, 4, 7, 17, 14, 11, 13, 12, 16, 15], [18, 10, 9, 3, 2, 0, 1, 8, 6, 5, 4, 7, 17, 14, 11, 13, 12, 16, 15], [19, 18, 10, 9, 3, 2, 0, 1, 8, 6, 5, 4, 7, 17, 14, 11, 13, 12, 16, 15], [19, 18, 10, 9, 3, 2, 0, 1, 8, 6, 5, 4, 7, 17, 14, 11, 13, 12, 16, 15, 20], [21, 19, 18, 10, 9, 3, 2, 0, 1, 8, 6, 5, 4, 7, 17, 14, 11, 13, 12, 16, 15, 20]] hmix ?_
  dsimp only
  repeat' first
    | (apply DW.nil; (focus (decide +kernel)))
    | (apply DW.toC; refine DWcall.go (And.intro AddS.eq_1 (And.intro NotS.eq_1 (And.intro livesS.eq_1 (And.intro la (And.intro lz (And.intro e2 e3)))))) ?_) | (apply DW.toOp; refine DWop.go (And.intro AddS.eq_1 (And.intro NotS.eq_1 (And.intro livesS.eq_1 (And.intro la (And.intro lz (And.intro e2 e3)))))) ?_) | (apply DW.toCG; first | refine DWcall.yes (And.intro AddS.eq_1 (And.intro NotS.eq_1 (And.intro livesS.eq_1 (And.intro la (And.intro lz (And.intro e2 e3)))))) ?_ | refine DWcall.no (And.intro AddS.eq_1 (And.intro NotS.eq_1 (And.intro livesS.eq_1 (And.intro la (And.intro lz (And.intro e2 e3)))))) ?_) | (apply DW.toG; first | refine DWop.yes (And.intro AddS.eq_1 (And.intro NotS.eq_1 (And.intro livesS.eq_1 (And.intro la (And.intro lz (And.intro e2 e3)))))) ?_ | refine DWop.no (And.intro AddS.eq_1 (And.intro NotS.eq_1 (And.intro livesS.eq_1 (And.intro la (And.intro lz (And.intro e2 e3)))))) ?_)
  repeat' first
    | refine W.seq ?_ | (refine W.regS G ?_; dsimp only) | refine SW.nil ?_ | refine thenQ_normal ?_ | refine W.skip ?_ | refine W.exit ?_ | refine thenQ_exit ?_ | refine inBlockQ_exit ?_ | refine inBlockQ_normal ?_ | refine W.block ?_
    | (apply SW.toC; refine SWcall.go (And.intro AddS.eq_1 (And.intro NotS.eq_1 (And.intro livesS.eq_1 (And.intro la (And.intro lz (And.intro e2 e3)))))) ?_) | (apply SW.toOp; refine SWop.go (And.intro AddS.eq_1 (And.intro NotS.eq_1 (And.intro livesS.eq_1 (And.intro la (And.intro lz (And.intro e2 e3)))))) ?_) | (apply SW.toCG; first | refine SWcall.yes (And.intro AddS.eq_1 (And.intro NotS.eq_1 (And.intro livesS.eq_1 (And.intro la (And.intro lz (And.intro e2 e3)))))) ?_ | refine SWcall.no (And.intro AddS.eq_1 (And.intro NotS.eq_1 (And.intro livesS.eq_1 (And.intro la (And.intro lz (And.intro e2 e3)))))) ?_) | (apply SW.toG; first | refine SWop.yes (And.intro AddS.eq_1 (And.intro NotS.eq_1 (And.intro livesS.eq_1 (And.intro la (And.intro lz (And.intro e2 e3)))))) ?_ | refine SWop.no (And.intro AddS.eq_1 (And.intro NotS.eq_1 (And.intro livesS.eq_1 (And.intro la (And.intro lz (And.intro e2 e3)))))) ?_)
  refine W.ret ?_
  repeat' first
    | refine thenQ_ret ?_
    | refine inBlockQ_ret ?_
  refine fin1Z (And.intro AddS.eq_1 (And.intro NotS.eq_1 (And.intro livesS.eq_1 (And.intro la (And.intro lz (And.intro e2 e3)))))) ?_
  exact leV_refl
end Go.Vm.C01

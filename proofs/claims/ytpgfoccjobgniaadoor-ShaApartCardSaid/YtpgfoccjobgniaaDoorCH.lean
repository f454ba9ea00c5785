/- What some functions of the program compute, walked through once. -/
import Derived.Test.YtpgfoccjobgniaaDoorCG
namespace Go.Vm.C04
open Go Go.Proofs
set_option linter.unusedVariables false
set_option linter.unusedSimpArgs false
set_option maxRecDepth 100000
set_option maxHeartbeats 8000000

theorem rhash_len (m : List (BitVec 8)) (K h : List (BitVec 32)) : (rhash m K h).length = 32 := outF_len _ _
noncomputable def rsumS : FSpec := { run := fun ins => match ins with
  | [.sl false (.u 8 m)] => chk (m.length ≤ 140737488352000) (some (.agg 32 (.u 8 (rhash m kB begunB)), []))
  | _ => none }
theorem rsum_sound : SoundFn Tryd.prog glB 6 rsumS.run := by
  have G := good_of (P := Tryd.prog) glB_ro (l := [(14, tableS), (15, rhashS)]) (by simp only [List.forall_mem_cons]; exact ⟨table_sound glB_ro, rhash_sound, by simp⟩)
  refine soundFn_of_W G Tryd.func6 (by decide) rfl (by decide) ?_
  intro ins ret outs h
  unfold rsumS at h
  dsimp only at h
  split at h
  rotate_left
  · cases h
  rename_i m
  obtain ⟨hl, h'⟩ := chk_some h
  clear h
  cases h'
  refine ⟨by show 1 ≤ 13; decide, fun w0 ext av => ?_⟩
  rw [Tryd.ntmps6, st0_eq]
  have e1 := tabK_eq
  have e2 := tabH_eq
  have l1 := kB_len
  have l2 := begunB_len
  repeat' first
    | refine W.seq ?_ | (refine W.regS G ?_; dsimp only) | refine SW.nil ?_ | refine thenQ_normal ?_ | refine W.skip ?_ | refine W.exit ?_ | refine thenQ_exit ?_ | refine inBlockQ_exit ?_ | refine inBlockQ_normal ?_ | refine W.block ?_
    | (apply SW.toC; refine SWcall.go (And.intro tableS.eq_1 (And.intro e1 e2)) ?_) | (apply SW.toOp; refine SWop.go (And.intro tableS.eq_1 (And.intro e1 e2)) ?_) | (apply SW.toCG; first | refine SWcall.yes (And.intro tableS.eq_1 (And.intro e1 e2)) ?_ | refine SWcall.no (And.intro tableS.eq_1 (And.intro e1 e2)) ?_) | (apply SW.toG; first | refine SWop.yes (And.intro tableS.eq_1 (And.intro e1 e2)) ?_ | refine SWop.no (And.intro tableS.eq_1 (And.intro e1 e2)) ?_)
  repeat' first
    | refine W.seq ?_ | (refine W.regS G ?_; dsimp only) | refine SW.nil ?_ | refine thenQ_normal ?_ | refine W.skip ?_ | refine W.exit ?_ | refine thenQ_exit ?_ | refine inBlockQ_exit ?_ | refine inBlockQ_normal ?_ | refine W.block ?_
    | (apply SW.toC; refine SWcall.go (And.intro rhashS.eq_1 (And.intro l1 l2)) ?_) | (apply SW.toOp; refine SWop.go (And.intro rhashS.eq_1 (And.intro l1 l2)) ?_) | (apply SW.toCG; first | refine SWcall.yes (And.intro rhashS.eq_1 (And.intro l1 l2)) ?_ | refine SWcall.no (And.intro rhashS.eq_1 (And.intro l1 l2)) ?_) | (apply SW.toG; first | refine SWop.yes (And.intro rhashS.eq_1 (And.intro l1 l2)) ?_ | refine SWop.no (And.intro rhashS.eq_1 (And.intro l1 l2)) ?_)
  refine W.ret ?_
  repeat' first
    | refine thenQ_ret ?_
    | refine inBlockQ_ret ?_
  refine fin1Z (And.intro rhashS.eq_1 (And.intro l1 l2)) ?_
  exact leV_refl

/-! ### hashes with a key -/
noncomputable def keyF (key : List (BitVec 8)) : List (BitVec 8) := if 64 < key.length then sumF [key] else key
theorem keyF_len (key : List (BitVec 8)) : (keyF key).length ≤ 64 := by
  unfold keyF
  split
  · rw [sumF_len]; decide
  · omega
noncomputable def k64F (key : List (BitVec 8)) : List (BitVec 8) := splL (zeros 8 64) 0 key
theorem k64F_len (key : List (BitVec 8)) (h : key.length ≤ 64) : (k64F key).length = 64 := by
  unfold k64F
  rw [splL_len _ _ _ (by simp [zeros]; omega)]
  simp [zeros]
def xorF (c : BitVec 8) (k : Nat) (l : List (BitVec 8)) : List (BitVec 8) := itN (fun i l => l.set i (l.getD i 0 ^^^ c)) k l
theorem xorF_len (c : BitVec 8) (k : Nat) (l : List (BitVec 8)) : (xorF c k l).length = l.length := itN_inv (p := fun (t : List (BitVec 8)) => t.length = l.length) (fun _ _ hh => by simpa using hh) k rfl
noncomputable def hmacF (key b : List (BitVec 8)) : List (BitVec 8) := sumF [xorF 92#8 64 (k64F (keyF key)), sumF [xorF 54#8 64 (k64F (keyF key)), b]]
noncomputable def hmacS : FSpec := { run := fun ins => match ins with
  | [.sl false (.u 8 key), .sl false (.u 8 b)] => chk (key.length ≤ 140737488352000 ∧ b.length ≤ 140737488352000) (some (.agg 32 (.u 8 (hmacF key b)), []))
  | _ => none }
theorem hmac_sound : SoundFn Tryd.prog glB 12 hmacS.run := by
  have G := good_of (P := Tryd.prog) glB_ro (l := [(16, sumS)]) (by simp only [List.forall_mem_cons]; exact ⟨sum_sound, by simp⟩)
  refine soundFn_of_W G Tryd.func12 (by decide) rfl (by decide) ?_
  intro ins ret outs h
  unfold hmacS at h
  dsimp only at h
  split at h
  rotate_left
  · cases h
  rename_i key b
  obtain ⟨hl, h'⟩ := chk_some h
  clear h
  cases h'
  have h1 : sumS.run [.sl false (.b false [key])] = some (.agg 32 (.u 8 (sumF [key])), []) := chk_ok ⟨by simp, one_le (by omega)⟩
  refine ⟨by show 2 ≤ 43; decide, fun w0 ext av => ?_⟩
  rw [Tryd.ntmps12, st0_eq]
  repeat' first
    | refine W.seq ?_ | (refine W.regS G ?_; dsimp only) | refine SW.nil ?_ | refine thenQ_normal ?_ | refine W.skip ?_ | refine W.exit ?_ | refine thenQ_exit ?_ | refine inBlockQ_exit ?_ | refine inBlockQ_normal ?_
    | (apply SW.toC; refine SWcall.go True.intro ?_) | (apply SW.toOp; refine SWop.go True.intro ?_) | (apply SW.toCG; first | refine SWcall.yes True.intro ?_ | refine SWcall.no True.intro ?_) | (apply SW.toG; first | refine SWop.yes True.intro ?_ | refine SWop.no True.intro ?_)
  refine W.midI (ι := Bool) (fun f => sL [(0, .sl f (.u 8 (keyF key))), (1, .sl false (.u 8 b)), (4, .p 4 0 0 0)] [(4, .agg 32 (.u 8 (zeros 8 32)))] 43) ?_ ?_
  · refine W.condZ G True.intro ?_ ?_
    all_goals intro hc
    · have hc' := of_decide_eq_true hc
      have e : keyF key = sumF [key] := if_pos (by omega)
      have ls := sumF_len [key]
      repeat' first
        | refine W.seq ?_ | (refine W.regS G ?_; dsimp only) | refine SW.nil ?_ | refine thenQ_normal ?_ | refine W.skip ?_ | refine W.exit ?_ | refine thenQ_exit ?_ | refine inBlockQ_exit ?_ | refine inBlockQ_normal ?_ | refine W.block ?_
        | (apply SW.toC; refine SWcall.go h1 ?_) | (apply SW.toOp; refine SWop.go h1 ?_) | (apply SW.toCG; first | refine SWcall.yes h1 ?_ | refine SWcall.no h1 ?_) | (apply SW.toG; first | refine SWop.yes h1 ?_ | refine SWop.no h1 ?_)
      refine ⟨true, Imp.frz 5 (by decide) ?_⟩
      generalize sumF [key] = S0 at e ls ⊢
      have e3 : subL S0 0 32 = S0 := by rw [← ls]; exact subL_all S0
      exact sL_leZ (And.intro e ls)
    · have hc' := of_decide_eq_false hc
      have e : keyF key = key := if_neg (by omega)
      repeat' first
        | refine W.seq ?_ | (refine W.regS G ?_; dsimp only) | refine SW.nil ?_ | refine thenQ_normal ?_ | refine W.skip ?_ | refine W.exit ?_ | refine thenQ_exit ?_ | refine inBlockQ_exit ?_ | refine inBlockQ_normal ?_ | refine W.block ?_
        | (apply SW.toC; refine SWcall.go True.intro ?_) | (apply SW.toOp; refine SWop.go True.intro ?_) | (apply SW.toCG; first | refine SWcall.yes True.intro ?_ | refine SWcall.no True.intro ?_) | (apply SW.toG; first | refine SWop.yes True.intro ?_ | refine SWop.no True.intro ?_)
      refine ⟨false, Imp.le ?_⟩
      exact sL_leZ e
  intro f
  have lk := keyF_len key
  have hF : hmacF key b = sumF [xorF 92#8 64 (k64F (keyF key)), sumF [xorF 54#8 64 (k64F (keyF key)), b]] := rfl
  generalize keyF key = ky at lk hF ⊢
  have e1 : min ky.length 64 = ky.length := by omega
  have hk : splL (zeros 8 64) 0 ky = k64F ky := rfl
  have l6 := k64F_len ky lk
  generalize k64F ky = k6 at hF hk l6
  repeat' first
    | refine W.seq ?_ | (refine W.regS G ?_; dsimp only) | refine SW.nil ?_ | refine thenQ_normal ?_ | refine W.skip ?_ | refine W.exit ?_ | refine thenQ_exit ?_ | refine inBlockQ_exit ?_ | refine inBlockQ_normal ?_
    | (apply SW.toC; refine SWcall.go (And.intro e1 hk) ?_) | (apply SW.toOp; refine SWop.go (And.intro e1 hk) ?_) | (apply SW.toCG; first | refine SWcall.yes (And.intro e1 hk) ?_ | refine SWcall.no (And.intro e1 hk) ?_) | (apply SW.toG; first | refine SWop.yes (And.intro e1 hk) ?_ | refine SWop.no (And.intro e1 hk) ?_)
  refine W.mid (sL [(1, .sl false (.u 8 b)), (4, .p 4 0 0 0), (6, .p 6 0 0 0), (7, .p 7 0 0 0)] [(4, .agg 32 (.u 8 (zeros 8 32))), (6, .agg 64 (.u 8 (xorF 54#8 64 k6))), (7, .agg 64 (.u 8 (xorF 92#8 64 k6)))] 43) ?_ ?_
  · repeat' first
      | refine W.seq ?_ | (refine W.regS G ?_; dsimp only) | refine SW.nil ?_ | refine thenQ_normal ?_ | refine W.skip ?_ | refine W.exit ?_ | refine thenQ_exit ?_ | refine inBlockQ_exit ?_ | refine inBlockQ_normal ?_ | refine W.block ?_
      | (apply SW.toC; refine SWcall.go (And.intro e1 hk) ?_) | (apply SW.toOp; refine SWop.go (And.intro e1 hk) ?_) | (apply SW.toCG; first | refine SWcall.yes (And.intro e1 hk) ?_ | refine SWcall.no (And.intro e1 hk) ?_) | (apply SW.toG; first | refine SWop.yes (And.intro e1 hk) ?_ | refine SWop.no (And.intro e1 hk) ?_)
    refine W.loopI (ι := {i : Nat // i ≤ 64}) (fun i => sL [(1, .sl false (.u 8 b)), (4, .p 4 0 0 0), (6, .p 6 0 0 0), (7, .p 7 0 0 0), (21, .i i.1)] [(4, .agg 32 (.u 8 (zeros 8 32))), (6, .agg 64 (.u 8 (xorF 54#8 i.1 k6))), (7, .agg 64 (.u 8 (xorF 92#8 i.1 k6)))] 43) (fun i => 64 - i.1) ⟨0, Nat.zero_le _⟩ (Imp.le ?_) ?_
    · exact sL_leZ (And.intro e1 hk)
    rintro ⟨i, hi⟩
    have e2 : xorF 54#8 (i + 1) k6 = (xorF 54#8 i k6).set i ((xorF 54#8 i k6).getD i 0 ^^^ 54#8) := itN_succ _ _ _
    have e3 : xorF 92#8 (i + 1) k6 = (xorF 92#8 i k6).set i ((xorF 92#8 i k6).getD i 0 ^^^ 92#8) := itN_succ _ _ _
    have hend : i = 64 → xorF 54#8 64 k6 = xorF 54#8 i k6 ∧ xorF 92#8 64 k6 = xorF 92#8 i k6 := by rintro rfl; exact ⟨rfl, rfl⟩
    generalize xorF 54#8 i k6 = x at e2 hend ⊢
    generalize xorF 92#8 i k6 = y at e3 hend ⊢
    repeat' first
      | refine W.seq ?_ | (refine W.regS G ?_; dsimp only) | refine SW.nil ?_ | refine thenQ_normal ?_ | refine W.skip ?_ | refine W.exit ?_ | refine thenQ_exit ?_ | refine inBlockQ_exit ?_ | refine inBlockQ_normal ?_ | refine W.block ?_
      | (apply SW.toC; refine SWcall.go True.intro ?_) | (apply SW.toOp; refine SWop.go True.intro ?_) | (apply SW.toCG; first | refine SWcall.yes True.intro ?_ | refine SWcall.no True.intro ?_) | (apply SW.toG; first | refine SWop.yes True.intro ?_ | refine SWop.no True.intro ?_)
    refine W.condZ G True.intro ?_ ?_
    all_goals intro ht
    · have ht' := of_decide_eq_true ht
      repeat' first
        | refine W.seq ?_ | (refine W.regS G ?_; dsimp only) | refine SW.nil ?_ | refine thenQ_normal ?_ | refine W.skip ?_ | refine W.exit ?_ | refine thenQ_exit ?_ | refine inBlockQ_exit ?_ | refine inBlockQ_normal ?_ | refine W.block ?_
        | (apply SW.toC; refine SWcall.go True.intro ?_) | (apply SW.toOp; refine SWop.go True.intro ?_) | (apply SW.toCG; first | refine SWcall.yes True.intro ?_ | refine SWcall.no True.intro ?_) | (apply SW.toG; first | refine SWop.yes True.intro ?_ | refine SWop.no True.intro ?_)
      refine ⟨⟨i + 1, by omega⟩, Imp.le ?_, by show _ - (i + 1) < _ - i; omega⟩
      exact sL_leZ (And.intro e2 e3)
    have ht' := of_decide_eq_false ht
    obtain rfl : i = 64 := by omega
    obtain ⟨hh, hh2⟩ := hend rfl
    repeat' first
      | refine W.seq ?_ | (refine W.regS G ?_; dsimp only) | refine SW.nil ?_ | refine thenQ_normal ?_ | refine W.skip ?_ | refine W.exit ?_ | refine thenQ_exit ?_ | refine inBlockQ_exit ?_ | refine inBlockQ_normal ?_ | refine W.block ?_
      | (apply SW.toC; refine SWcall.go True.intro ?_) | (apply SW.toOp; refine SWop.go True.intro ?_) | (apply SW.toCG; first | refine SWcall.yes True.intro ?_ | refine SWcall.no True.intro ?_) | (apply SW.toG; first | refine SWop.yes True.intro ?_ | refine SWop.no True.intro ?_)
    refine Imp.le ?_
    exact sL_leZ (And.intro hh hh2)
  have lx : (xorF 54#8 64 k6).length = 64 := by rw [xorF_len, l6]
  have ly : (xorF 92#8 64 k6).length = 64 := by rw [xorF_len, l6]
  generalize xorF 54#8 64 k6 = x at hF lx ⊢
  generalize xorF 92#8 64 k6 = y at hF ly ⊢
  have h2 : sumS.run [.sl false (.b false [x, b])] = some (.agg 32 (.u 8 (sumF [x, b])), []) := chk_ok ⟨by simp, two_le (by omega) (by omega)⟩
  refine W.imp (s := sL [(1, .sl false (.u 8 b)), (4, .p 4 0 0 0), (6, .rp (.u 8 x) 0), (7, .p 7 0 0 0)] [(4, .agg 32 (.u 8 (zeros 8 32))), (7, .agg 64 (.u 8 y))] 43) ?_ (Imp.frz 6 (by decide) ?_)
  rotate_left
  · exact sL_leZ True.intro
  have e4 : subL x 0 64 = x := by rw [← lx]; exact subL_all x
  repeat' first
    | refine W.seq ?_ | (refine W.regS G ?_; dsimp only) | refine SW.nil ?_ | refine thenQ_normal ?_ | refine W.skip ?_ | refine W.exit ?_ | refine thenQ_exit ?_ | refine inBlockQ_exit ?_ | refine inBlockQ_normal ?_
    | (apply SW.toC; refine SWcall.go (And.intro h2 (And.intro lx e4)) ?_) | (apply SW.toOp; refine SWop.go (And.intro h2 (And.intro lx e4)) ?_) | (apply SW.toCG; first | refine SWcall.yes (And.intro h2 (And.intro lx e4)) ?_ | refine SWcall.no (And.intro h2 (And.intro lx e4)) ?_) | (apply SW.toG; first | refine SWop.yes (And.intro h2 (And.intro lx e4)) ?_ | refine SWop.no (And.intro h2 (And.intro lx e4)) ?_)
  have lh := sumF_len [x, b]
  generalize sumF [x, b] = S1 at hF lh ⊢
  have h3 : sumS.run [.sl false (.b false [y, S1])] = some (.agg 32 (.u 8 (sumF [y, S1])), []) := chk_ok ⟨by simp, two_le (by omega) (by omega)⟩
  refine W.imp (s := sL [(4, .p 4 0 0 0), (7, .rp (.u 8 y) 0), (9, .rp (.u 8 S1) 0)] [(4, .agg 32 (.u 8 (zeros 8 32)))] 43) ?_ (Imp.trans (Imp.frz 7 (by decide) (Le_refl _)) (Imp.frz 9 (by decide) ?_))
  rotate_left
  · exact sL_leZ True.intro
  have e5 : subL y 0 64 = y := by rw [← ly]; exact subL_all y
  have e6 : subL S1 0 32 = S1 := by rw [← lh]; exact subL_all S1
  refine W.drawS G [[], [], [0, 1], [2, 0, 1], [3, 2, 0, 1]] hmix ?_
  dsimp only
  repeat' first
    | (apply DW.nil; (focus (decide +kernel)))
    | (apply DW.toC; refine DWcall.go (And.intro h3 (And.intro ly (And.intro lh (And.intro e5 e6)))) ?_) | (apply DW.toOp; refine DWop.go (And.intro h3 (And.intro ly (And.intro lh (And.intro e5 e6)))) ?_) | (apply DW.toCG; first | refine DWcall.yes (And.intro h3 (And.intro ly (And.intro lh (And.intro e5 e6)))) ?_ | refine DWcall.no (And.intro h3 (And.intro ly (And.intro lh (And.intro e5 e6)))) ?_) | (apply DW.toG; first | refine DWop.yes (And.intro h3 (And.intro ly (And.intro lh (And.intro e5 e6)))) ?_ | refine DWop.no (And.intro h3 (And.intro ly (And.intro lh (And.intro e5 e6)))) ?_)
  repeat' first
    | refine W.seq ?_ | (refine W.regS G ?_; dsimp only) | refine SW.nil ?_ | refine thenQ_normal ?_ | refine W.skip ?_ | refine W.exit ?_ | refine thenQ_exit ?_ | refine inBlockQ_exit ?_ | refine inBlockQ_normal ?_ | refine W.block ?_
    | (apply SW.toC; refine SWcall.go True.intro ?_) | (apply SW.toOp; refine SWop.go True.intro ?_) | (apply SW.toCG; first | refine SWcall.yes True.intro ?_ | refine SWcall.no True.intro ?_) | (apply SW.toG; first | refine SWop.yes True.intro ?_ | refine SWop.no True.intro ?_)
  refine W.ret ?_
  repeat' first
    | refine thenQ_ret ?_
    | refine inBlockQ_ret ?_
  refine fin1Z True.intro ?_
  rw [hF]
  exact leV_refl

def rxF (key : List (BitVec 8)) (c : BitVec 8) (k : Nat) : List (BitVec 8) := itN (fun i l => l ++ [key.getD i 0 ^^^ c]) k []
theorem rxF_len (key : List (BitVec 8)) (c : BitVec 8) (k : Nat) : (rxF key c k).length = k := by
  induction k with
  | zero => rfl
  | succ k ih => show (rxF key c k ++ _).length = _; simp [ih]
def rkeyF (key : List (BitVec 8)) : List (BitVec 8) := if 64 < key.length then rhash key kB begunB else key
theorem rkeyF_len (key : List (BitVec 8)) : (rkeyF key).length ≤ 64 := by
  unfold rkeyF
  split
  · rw [rhash_len]; decide
  · omega
def rhmacF (key m : List (BitVec 8)) : List (BitVec 8) := rhash (rxF (rkeyF key) 92#8 64 ++ rhash (rxF (rkeyF key) 54#8 64 ++ m) kB begunB) kB begunB
noncomputable def rhmacS : FSpec := { run := fun ins => match ins with
  | [.sl false (.u 8 key), .sl false (.u 8 m)] => chk (key.length ≤ 140737488351500 ∧ m.length ≤ 140737488351500) (some (.agg 32 (.u 8 (rhmacF key m)), []))
  | _ => none }
theorem rhmac_sound : SoundFn Tryd.prog glB 13 rhmacS.run := by
  have G := good_of (P := Tryd.prog) glB_ro (l := [(14, tableS), (15, rhashS)]) (by simp only [List.forall_mem_cons]; exact ⟨table_sound glB_ro, rhash_sound, by simp⟩)
  refine soundFn_of_W G Tryd.func13 (by decide) rfl (by decide) ?_
  intro ins ret outs h
  unfold rhmacS at h
  dsimp only at h
  split at h
  rotate_left
  · cases h
  rename_i key m
  obtain ⟨hl, h'⟩ := chk_some h
  clear h
  cases h'
  refine ⟨by show 2 ≤ 61; decide, fun w0 ext av => ?_⟩
  rw [Tryd.ntmps13, st0_eq]
  have e1 := tabK_eq
  have e2 := tabH_eq
  have l1 := kB_len
  have l2 := begunB_len
  repeat' first
    | refine W.seq ?_ | (refine W.regS G ?_; dsimp only) | refine SW.nil ?_ | refine thenQ_normal ?_ | refine W.skip ?_ | refine W.exit ?_ | refine thenQ_exit ?_ | refine inBlockQ_exit ?_ | refine inBlockQ_normal ?_
    | (apply SW.toC; refine SWcall.go (And.intro tableS.eq_1 (And.intro e1 e2)) ?_) | (apply SW.toOp; refine SWop.go (And.intro tableS.eq_1 (And.intro e1 e2)) ?_) | (apply SW.toCG; first | refine SWcall.yes (And.intro tableS.eq_1 (And.intro e1 e2)) ?_ | refine SWcall.no (And.intro tableS.eq_1 (And.intro e1 e2)) ?_) | (apply SW.toG; first | refine SWop.yes (And.intro tableS.eq_1 (And.intro e1 e2)) ?_ | refine SWop.no (And.intro tableS.eq_1 (And.intro e1 e2)) ?_)
  refine W.midI (ι := Bool) (fun f => sL [(0, .sl f (.u 8 (rkeyF key))), (1, .sl false (.u 8 m)), (4, .p 4 0 0 0), (5, .sl true (.u 32 kB)), (6, .p 6 0 0 0)] [(4, .agg 32 (.u 8 (zeros 8 32))), (6, .agg 8 (.u 32 begunB))] 61) ?_ ?_
  · refine W.condZ G (And.intro tableS.eq_1 (And.intro e1 e2)) ?_ ?_
    all_goals intro hc
    · have hc' := of_decide_eq_true hc
      have e : rkeyF key = rhash key kB begunB := if_pos (by omega)
      have ls := rhash_len key kB begunB
      repeat' first
        | refine W.seq ?_ | (refine W.regS G ?_; dsimp only) | refine SW.nil ?_ | refine thenQ_normal ?_ | refine W.skip ?_ | refine W.exit ?_ | refine thenQ_exit ?_ | refine inBlockQ_exit ?_ | refine inBlockQ_normal ?_ | refine W.block ?_
        | (apply SW.toC; refine SWcall.go (And.intro tableS.eq_1 (And.intro e1 (And.intro e2 (And.intro rhashS.eq_1 (And.intro l1 l2))))) ?_) | (apply SW.toOp; refine SWop.go (And.intro tableS.eq_1 (And.intro e1 (And.intro e2 (And.intro rhashS.eq_1 (And.intro l1 l2))))) ?_) | (apply SW.toCG; first | refine SWcall.yes (And.intro tableS.eq_1 (And.intro e1 (And.intro e2 (And.intro rhashS.eq_1 (And.intro l1 l2))))) ?_ | refine SWcall.no (And.intro tableS.eq_1 (And.intro e1 (And.intro e2 (And.intro rhashS.eq_1 (And.intro l1 l2))))) ?_) | (apply SW.toG; first | refine SWop.yes (And.intro tableS.eq_1 (And.intro e1 (And.intro e2 (And.intro rhashS.eq_1 (And.intro l1 l2))))) ?_ | refine SWop.no (And.intro tableS.eq_1 (And.intro e1 (And.intro e2 (And.intro rhashS.eq_1 (And.intro l1 l2))))) ?_)
      refine ⟨true, Imp.frz 7 (by decide) ?_⟩
      generalize rhash key kB begunB = S0 at e ls ⊢
      have e3 : subL S0 0 32 = S0 := by rw [← ls]; exact subL_all S0
      exact sL_leZ (And.intro e (And.intro ls (And.intro e1 e2)))
    · have hc' := of_decide_eq_false hc
      have e : rkeyF key = key := if_neg (by omega)
      repeat' first
        | refine W.seq ?_ | (refine W.regS G ?_; dsimp only) | refine SW.nil ?_ | refine thenQ_normal ?_ | refine W.skip ?_ | refine W.exit ?_ | refine thenQ_exit ?_ | refine inBlockQ_exit ?_ | refine inBlockQ_normal ?_ | refine W.block ?_
        | (apply SW.toC; refine SWcall.go (And.intro tableS.eq_1 (And.intro e1 e2)) ?_) | (apply SW.toOp; refine SWop.go (And.intro tableS.eq_1 (And.intro e1 e2)) ?_) | (apply SW.toCG; first | refine SWcall.yes (And.intro tableS.eq_1 (And.intro e1 e2)) ?_ | refine SWcall.no (And.intro tableS.eq_1 (And.intro e1 e2)) ?_) | (apply SW.toG; first | refine SWop.yes (And.intro tableS.eq_1 (And.intro e1 e2)) ?_ | refine SWop.no (And.intro tableS.eq_1 (And.intro e1 e2)) ?_)
      refine ⟨false, Imp.le ?_⟩
      exact sL_leZ (And.intro e (And.intro tableS.eq_1 (And.intro e1 e2)))
  intro f
  have lk := rkeyF_len key
  have hF : rhmacF key m = rhash (rxF (rkeyF key) 92#8 64 ++ rhash (rxF (rkeyF key) 54#8 64 ++ m) kB begunB) kB begunB := rfl
  generalize rkeyF key = ky at lk hF ⊢
  repeat' first
    | refine W.seq ?_ | (refine W.regS G ?_; dsimp only) | refine SW.nil ?_ | refine thenQ_normal ?_ | refine W.skip ?_ | refine W.exit ?_ | refine thenQ_exit ?_ | refine inBlockQ_exit ?_ | refine inBlockQ_normal ?_
    | (apply SW.toC; refine SWcall.go True.intro ?_) | (apply SW.toOp; refine SWop.go True.intro ?_) | (apply SW.toCG; first | refine SWcall.yes True.intro ?_ | refine SWcall.no True.intro ?_) | (apply SW.toG; first | refine SWop.yes True.intro ?_ | refine SWop.no True.intro ?_)
  refine W.mid (sL [(1, .sl false (.u 8 m)), (4, .p 4 0 0 0), (5, .sl true (.u 32 kB)), (6, .p 6 0 0 0), (8, .gr 25 64), (9, .gr 26 64)] [(4, .agg 32 (.u 8 (zeros 8 32))), (6, .agg 8 (.u 32 begunB)), (25, .row (.u 8 (rxF ky 54#8 64))), (26, .row (.u 8 (rxF ky 92#8 64)))] 61) ?_ ?_
  · repeat' first
      | refine W.seq ?_ | (refine W.regS G ?_; dsimp only) | refine SW.nil ?_ | refine thenQ_normal ?_ | refine W.skip ?_ | refine W.exit ?_ | refine thenQ_exit ?_ | refine inBlockQ_exit ?_ | refine inBlockQ_normal ?_ | refine W.block ?_
      | (apply SW.toC; refine SWcall.go True.intro ?_) | (apply SW.toOp; refine SWop.go True.intro ?_) | (apply SW.toCG; first | refine SWcall.yes True.intro ?_ | refine SWcall.no True.intro ?_) | (apply SW.toG; first | refine SWop.yes True.intro ?_ | refine SWop.no True.intro ?_)
    refine W.loopI (ι := {i : Nat // i ≤ 64}) (fun i => sL [(0, .sl f (.u 8 ky)), (1, .sl false (.u 8 m)), (4, .p 4 0 0 0), (5, .sl true (.u 32 kB)), (6, .p 6 0 0 0), (8, .gr 25 i.1), (9, .gr 26 i.1), (10, .i i.1)] [(4, .agg 32 (.u 8 (zeros 8 32))), (6, .agg 8 (.u 32 begunB)), (25, .row (.u 8 (rxF ky 54#8 i.1))), (26, .row (.u 8 (rxF ky 92#8 i.1)))] 61) (fun i => 64 - i.1) ⟨0, Nat.zero_le _⟩ (Imp.le ?_) ?_
    · exact sL_leZ True.intro
    rintro ⟨i, hi⟩
    have g2 : rxF ky 54#8 (i + 1) = rxF ky 54#8 i ++ [ky.getD i 0 ^^^ 54#8] := itN_succ _ _ _
    have g3 : rxF ky 92#8 (i + 1) = rxF ky 92#8 i ++ [ky.getD i 0 ^^^ 92#8] := itN_succ _ _ _
    have lx := rxF_len ky 54#8 i
    have ly := rxF_len ky 92#8 i
    have hend : i = 64 → rxF ky 54#8 64 = rxF ky 54#8 i ∧ rxF ky 92#8 64 = rxF ky 92#8 i := by rintro rfl; exact ⟨rfl, rfl⟩
    generalize rxF ky 54#8 i = x at g2 lx hend ⊢
    generalize rxF ky 92#8 i = y at g3 ly hend ⊢
    repeat' first
      | refine W.seq ?_ | (refine W.regS G ?_; dsimp only) | refine SW.nil ?_ | refine thenQ_normal ?_ | refine W.skip ?_ | refine W.exit ?_ | refine thenQ_exit ?_ | refine inBlockQ_exit ?_ | refine inBlockQ_normal ?_ | refine W.block ?_
      | (apply SW.toC; refine SWcall.go (And.intro lx ly) ?_) | (apply SW.toOp; refine SWop.go (And.intro lx ly) ?_) | (apply SW.toCG; first | refine SWcall.yes (And.intro lx ly) ?_ | refine SWcall.no (And.intro lx ly) ?_) | (apply SW.toG; first | refine SWop.yes (And.intro lx ly) ?_ | refine SWop.no (And.intro lx ly) ?_)
    refine W.condZ G (And.intro lx ly) ?_ ?_
    all_goals intro ht
    · have ht' := of_decide_eq_true ht
      repeat' first
        | refine W.seq ?_ | (refine W.regS G ?_; dsimp only) | refine SW.nil ?_ | refine thenQ_normal ?_ | refine W.skip ?_ | refine W.exit ?_ | refine thenQ_exit ?_ | refine inBlockQ_exit ?_ | refine inBlockQ_normal ?_
        | (apply SW.toC; refine SWcall.go (And.intro lx ly) ?_) | (apply SW.toOp; refine SWop.go (And.intro lx ly) ?_) | (apply SW.toCG; first | refine SWcall.yes (And.intro lx ly) ?_ | refine SWcall.no (And.intro lx ly) ?_) | (apply SW.toG; first | refine SWop.yes (And.intro lx ly) ?_ | refine SWop.no (And.intro lx ly) ?_)
      refine W.block ?_
      repeat' first
        | refine W.seq ?_ | (refine W.regS G ?_; dsimp only) | refine SW.nil ?_ | refine thenQ_normal ?_ | refine W.skip ?_ | refine W.exit ?_ | refine thenQ_exit ?_ | refine inBlockQ_exit ?_ | refine inBlockQ_normal ?_
        | (apply SW.toC; refine SWcall.go (And.intro lx ly) ?_) | (apply SW.toOp; refine SWop.go (And.intro lx ly) ?_) | (apply SW.toCG; first | refine SWcall.yes (And.intro lx ly) ?_ | refine SWcall.no (And.intro lx ly) ?_) | (apply SW.toG; first | refine SWop.yes (And.intro lx ly) ?_ | refine SWop.no (And.intro lx ly) ?_)
      refine W.mid (sL [(0, .sl f (.u 8 ky)), (1, .sl false (.u 8 m)), (4, .p 4 0 0 0), (5, .sl true (.u 32 kB)), (6, .p 6 0 0 0), (8, .gr 25 i), (9, .gr 26 i), (10, .i i), (11, .u 8 (ky.getD i 0))] [(4, .agg 32 (.u 8 (zeros 8 32))), (6, .agg 8 (.u 32 begunB)), (25, .row (.u 8 x)), (26, .row (.u 8 y))] 61) ?_ ?_
      · refine W.condZ G (And.intro lx ly) ?_ ?_
        all_goals intro hc
        · have hc' := of_decide_eq_true hc
          repeat' first
            | refine W.seq ?_ | (refine W.regS G ?_; dsimp only) | refine SW.nil ?_ | refine thenQ_normal ?_ | refine W.skip ?_ | refine W.exit ?_ | refine thenQ_exit ?_ | refine inBlockQ_exit ?_ | refine inBlockQ_normal ?_ | refine W.block ?_
            | (apply SW.toC; refine SWcall.go (And.intro lx ly) ?_) | (apply SW.toOp; refine SWop.go (And.intro lx ly) ?_) | (apply SW.toCG; first | refine SWcall.yes (And.intro lx ly) ?_ | refine SWcall.no (And.intro lx ly) ?_) | (apply SW.toG; first | refine SWop.yes (And.intro lx ly) ?_ | refine SWop.no (And.intro lx ly) ?_)
          refine Imp.le ?_
          exact sL_leZ (And.intro lx ly)
        · have hc' := of_decide_eq_false hc
          have e : ky.getD i 0 = 0 := getD_off _ _ _ (by omega)
          repeat' first
            | refine W.seq ?_ | (refine W.regS G ?_; dsimp only) | refine SW.nil ?_ | refine thenQ_normal ?_ | refine W.skip ?_ | refine W.exit ?_ | refine thenQ_exit ?_ | refine inBlockQ_exit ?_ | refine inBlockQ_normal ?_ | refine W.block ?_
            | (apply SW.toC; refine SWcall.go (And.intro lx ly) ?_) | (apply SW.toOp; refine SWop.go (And.intro lx ly) ?_) | (apply SW.toCG; first | refine SWcall.yes (And.intro lx ly) ?_ | refine SWcall.no (And.intro lx ly) ?_) | (apply SW.toG; first | refine SWop.yes (And.intro lx ly) ?_ | refine SWop.no (And.intro lx ly) ?_)
          refine Imp.le ?_
          exact sL_leZ (And.intro e (And.intro lx ly))
      repeat' first
        | refine W.seq ?_ | (refine W.regS G ?_; dsimp only) | refine SW.nil ?_ | refine thenQ_normal ?_ | refine W.skip ?_ | refine W.exit ?_ | refine thenQ_exit ?_ | refine inBlockQ_exit ?_ | refine inBlockQ_normal ?_ | refine W.block ?_
        | (apply SW.toC; refine SWcall.go (And.intro lx ly) ?_) | (apply SW.toOp; refine SWop.go (And.intro lx ly) ?_) | (apply SW.toCG; first | refine SWcall.yes (And.intro lx ly) ?_ | refine SWcall.no (And.intro lx ly) ?_) | (apply SW.toG; first | refine SWop.yes (And.intro lx ly) ?_ | refine SWop.no (And.intro lx ly) ?_)
      refine ⟨⟨i + 1, by omega⟩, Imp.le ?_, by show _ - (i + 1) < _ - i; omega⟩
      exact sL_leZ (And.intro g2 (And.intro g3 (And.intro lx ly)))
    have ht' := of_decide_eq_false ht
    obtain rfl : i = 64 := by omega
    obtain ⟨hh, hh2⟩ := hend rfl
    repeat' first
      | refine W.seq ?_ | (refine W.regS G ?_; dsimp only) | refine SW.nil ?_ | refine thenQ_normal ?_ | refine W.skip ?_ | refine W.exit ?_ | refine thenQ_exit ?_ | refine inBlockQ_exit ?_ | refine inBlockQ_normal ?_ | refine W.block ?_
      | (apply SW.toC; refine SWcall.go (And.intro lx ly) ?_) | (apply SW.toOp; refine SWop.go (And.intro lx ly) ?_) | (apply SW.toCG; first | refine SWcall.yes (And.intro lx ly) ?_ | refine SWcall.no (And.intro lx ly) ?_) | (apply SW.toG; first | refine SWop.yes (And.intro lx ly) ?_ | refine SWop.no (And.intro lx ly) ?_)
    refine Imp.le ?_
    exact sL_leZ (And.intro hh (And.intro hh2 (And.intro lx ly)))
  have lx := rxF_len ky 54#8 64
  have ly := rxF_len ky 92#8 64
  generalize rxF ky 54#8 64 = x at hF lx ⊢
  generalize rxF ky 92#8 64 = y at hF ly ⊢
  repeat' first
    | refine W.seq ?_ | (refine W.regS G ?_; dsimp only) | refine SW.nil ?_ | refine thenQ_normal ?_ | refine W.skip ?_ | refine W.exit ?_ | refine thenQ_exit ?_ | refine inBlockQ_exit ?_ | refine inBlockQ_normal ?_ | refine W.block ?_
    | (apply SW.toC; refine SWcall.go (And.intro lx ly) ?_) | (apply SW.toOp; refine SWop.go (And.intro lx ly) ?_) | (apply SW.toCG; first | refine SWcall.yes (And.intro lx ly) ?_ | refine SWcall.no (And.intro lx ly) ?_) | (apply SW.toG; first | refine SWop.yes (And.intro lx ly) ?_ | refine SWop.no (And.intro lx ly) ?_)
  refine W.drawS G [[], [], [0, 1], [], [], [2, 0, 1, 3, 4], [], [6, 5, 2, 0, 1, 3, 4]] hmix ?_
  dsimp only
  repeat' first
    | (apply DW.nil; (focus (decide +kernel)))
    | (apply DW.toC; refine DWcall.go (And.intro lx (And.intro ly (And.intro rhashS.eq_1 (And.intro l1 l2)))) ?_) | (apply DW.toOp; refine DWop.go (And.intro lx (And.intro ly (And.intro rhashS.eq_1 (And.intro l1 l2)))) ?_) | (apply DW.toCG; first | refine DWcall.yes (And.intro lx (And.intro ly (And.intro rhashS.eq_1 (And.intro l1 l2)))) ?_ | refine DWcall.no (And.intro lx (And.intro ly (And.intro rhashS.eq_1 (And.intro l1 l2)))) ?_) | (apply DW.toG; first | refine DWop.yes (And.intro lx (And.intro ly (And.intro rhashS.eq_1 (And.intro l1 l2)))) ?_ | refine DWop.no (And.intro lx (And.intro ly (And.intro rhashS.eq_1 (And.intro l1 l2)))) ?_)
  repeat' first
    | refine W.seq ?_ | (refine W.regS G ?_; dsimp only) | refine SW.nil ?_ | refine thenQ_normal ?_ | refine W.skip ?_ | refine W.exit ?_ | refine thenQ_exit ?_ | refine inBlockQ_exit ?_ | refine inBlockQ_normal ?_ | refine W.block ?_
    | (apply SW.toC; refine SWcall.go (And.intro lx ly) ?_) | (apply SW.toOp; refine SWop.go (And.intro lx ly) ?_) | (apply SW.toCG; first | refine SWcall.yes (And.intro lx ly) ?_ | refine SWcall.no (And.intro lx ly) ?_) | (apply SW.toG; first | refine SWop.yes (And.intro lx ly) ?_ | refine SWop.no (And.intro lx ly) ?_)
  have l3 := rhash_len (x ++ m) kB begunB
  generalize rhash (x ++ m) kB begunB = S1 at hF l3 ⊢
  refine W.drawS G [[], [], [0, 1], [], [], [2, 0, 1, 3, 4], [5, 2, 0, 1, 3, 4]] hmix ?_
  dsimp only
  repeat' first
    | (apply DW.nil; (focus (decide +kernel)))
    | (apply DW.toC; refine DWcall.go (And.intro lx (And.intro ly (And.intro rhashS.eq_1 (And.intro l1 (And.intro l2 l3))))) ?_) | (apply DW.toOp; refine DWop.go (And.intro lx (And.intro ly (And.intro rhashS.eq_1 (And.intro l1 (And.intro l2 l3))))) ?_) | (apply DW.toCG; first | refine DWcall.yes (And.intro lx (And.intro ly (And.intro rhashS.eq_1 (And.intro l1 (And.intro l2 l3))))) ?_ | refine DWcall.no (And.intro lx (And.intro ly (And.intro rhashS.eq_1 (And.intro l1 (And.intro l2 l3))))) ?_) | (apply DW.toG; first | refine DWop.yes (And.intro lx (And.intro ly (And.intro rhashS.eq_1 (And.intro l1 (And.intro l2 l3))))) ?_ | refine DWop.no (And.intro lx (And.intro ly (And.intro rhashS.eq_1 (And.intro l1 (And.intro l2 l3))))) ?_)
  repeat' first
    | refine W.seq ?_ | (refine W.regS G ?_; dsimp only) | refine SW.nil ?_ | refine thenQ_normal ?_ | refine W.skip ?_ | refine W.exit ?_ | refine thenQ_exit ?_ | refine inBlockQ_exit ?_ | refine inBlockQ_normal ?_ | refine W.block ?_
    | (apply SW.toC; refine SWcall.go (And.intro lx ly) ?_) | (apply SW.toOp; refine SWop.go (And.intro lx ly) ?_) | (apply SW.toCG; first | refine SWcall.yes (And.intro lx ly) ?_ | refine SWcall.no (And.intro lx ly) ?_) | (apply SW.toG; first | refine SWop.yes (And.intro lx ly) ?_ | refine SWop.no (And.intro lx ly) ?_)
  refine W.ret ?_
  repeat' first
    | refine thenQ_ret ?_
    | refine inBlockQ_ret ?_
  refine fin1Z (And.intro lx ly) ?_
  rw [hF]
  exact leV_refl
end Go.Vm.C04

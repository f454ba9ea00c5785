/- What some functions of the program compute, walked through once. -/
import Derived.Test.YtioffpklmlmhcaaDoorCF
namespace Go.Vm.C03
open Go Go.Proofs
set_option linter.unusedVariables false
set_option linter.unusedSimpArgs false
set_option maxRecDepth 100000
set_option maxHeartbeats 8000000

/-- the sponge's state: its lanes, and where the next byte goes -/
noncomputable def takeB (p : List (BitVec 64) × Nat) (x : BitVec 8) : List (BitVec 64) × Nat := if p.2 + 1 = 136 then (permF (putF p.1 p.2 x), 0) else (putF p.1 p.2 x, p.2 + 1)
noncomputable def takes (b : List (BitVec 8)) (k : Nat) (p : List (BitVec 64) × Nat) : List (BitVec 64) × Nat := itN (fun i p => takeB p (b.getD i 0)) k p
theorem putF_len (s : List (BitVec 64)) (a : Nat) (x : BitVec 8) : (putF s a x).length = s.length := by simp [putF]
theorem takeB_ok {p : List (BitVec 64) × Nat} {x : BitVec 8} (h : p.1.length = 25 ∧ p.2 < 136) : (takeB p x).1.length = 25 ∧ (takeB p x).2 < 136 := by
  unfold takeB
  split
  · exact ⟨by rw [permF_len, putF_len, h.1], by show 0 < 136; decide⟩
  · exact ⟨by rw [putF_len, h.1], by show p.2 + 1 < 136; omega⟩
theorem takes_ok (b : List (BitVec 8)) (k : Nat) {p : List (BitVec 64) × Nat} (h : p.1.length = 25 ∧ p.2 < 136) : (takes b k p).1.length = 25 ∧ (takes b k p).2 < 136 :=
  itN_inv (p := fun (q : List (BitVec 64) × Nat) => q.1.length = 25 ∧ q.2 < 136) (fun _ _ hq => takeB_ok hq) k h
noncomputable def takesS : FSpec := { run := fun ins => match ins with
  | [.ref 0 0 (.st [.agg 25 (.u 64 s), .i n]), .sl false (.u 8 b)] => chk (s.length = 25 ∧ 0 ≤ n ∧ n < 136 ∧ b.length ≤ 140737488355328)
      (some (.tup [], [.st [.agg 25 (.u 64 (takes b b.length (s, n.toNat)).1), .i ((takes b b.length (s, n.toNat)).2 : Int)]]))
  | _ => none }
theorem takes_sound : SoundFn Tryd.prog glB 14 takesS.run := by
  have G := good_of (P := Tryd.prog) glB_ro (l := [(16, permS), (19, putS)]) (by simp only [List.forall_mem_cons]; exact ⟨perm_sound, put_sound, by simp⟩)
  refine soundFn_of_W G Tryd.func14 (by decide) rfl (by decide) ?_
  intro ins ret outs h
  unfold takesS at h
  dsimp only at h
  split at h
  rotate_left
  · cases h
  rename_i s n b
  obtain ⟨hm, h'⟩ := chk_some h
  clear h
  obtain ⟨k, rfl⟩ : ∃ k : Nat, n = k := ⟨n.toNat, by omega⟩
  cases h'
  simp only [Int.toNat_natCast]
  refine ⟨by show 2 ≤ 39; decide, fun w0 ext av => ?_⟩
  rw [Tryd.ntmps14, st0_eq]
  repeat' first
    | refine W.seq ?_ | (refine W.regS G ?_; dsimp only) | refine SW.nil ?_ | refine thenQ_normal ?_ | refine W.skip ?_ | refine W.exit ?_ | refine thenQ_exit ?_ | refine inBlockQ_exit ?_ | refine inBlockQ_normal ?_ | refine W.block ?_
    | (apply SW.toC; refine SWcall.go True.intro ?_) | (apply SW.toOp; refine SWop.go True.intro ?_) | (apply SW.toCG; first | refine SWcall.yes True.intro ?_ | refine SWcall.no True.intro ?_) | (apply SW.toG; first | refine SWop.yes True.intro ?_ | refine SWop.no True.intro ?_)
  refine W.loopI (ι := {i : Nat // i ≤ b.length}) (fun i => sL [(0, .p 1000 0 0 0), (6, .sl false (.u 8 b)), (7, .i b.length), (8, .i i.1)] [(1000, .st [.agg 25 (.u 64 (takes b i.1 (s, k)).1), .i ((takes b i.1 (s, k)).2 : Int)])] 39) (fun i => b.length - i.1) ⟨0, Nat.zero_le _⟩ (Imp.le ?_) ?_
  · exact sL_leZ True.intro
  rintro ⟨i, hi⟩
  have e : takes b (i + 1) (s, k) = takeB (takes b i (s, k)) (b.getD i 0) := by rw [takes, itN_succ]; rfl
  have ok := takes_ok b i (p := (s, k)) ⟨hm.1, by omega⟩
  have hend : i = b.length → takes b b.length (s, k) = takes b i (s, k) := by rintro rfl; rfl
  generalize takes b i (s, k) = p at e ok hend ⊢
  obtain ⟨s1, n1⟩ := p
  dsimp only at e ok hend ⊢
  repeat' first
    | refine W.seq ?_ | (refine W.regS G ?_; dsimp only) | refine SW.nil ?_ | refine thenQ_normal ?_ | refine W.skip ?_ | refine W.exit ?_ | refine thenQ_exit ?_ | refine inBlockQ_exit ?_ | refine inBlockQ_normal ?_ | refine W.block ?_
    | (apply SW.toC; refine SWcall.go True.intro ?_) | (apply SW.toOp; refine SWop.go True.intro ?_) | (apply SW.toCG; first | refine SWcall.yes True.intro ?_ | refine SWcall.no True.intro ?_) | (apply SW.toG; first | refine SWop.yes True.intro ?_ | refine SWop.no True.intro ?_)
  refine W.condZ G True.intro ?_ ?_
  all_goals intro ht
  · have ht' := of_decide_eq_true ht
    generalize hx : b.getD i 0 = x at e
    repeat' first
      | refine W.seq ?_ | (refine W.regS G ?_; dsimp only) | refine SW.nil ?_ | refine thenQ_normal ?_ | refine W.skip ?_ | refine W.exit ?_ | refine thenQ_exit ?_ | refine inBlockQ_exit ?_ | refine inBlockQ_normal ?_ | refine W.block ?_
      | (apply SW.toC; refine SWcall.go (And.intro putS.eq_1 hx) ?_) | (apply SW.toOp; refine SWop.go (And.intro putS.eq_1 hx) ?_) | (apply SW.toCG; first | refine SWcall.yes (And.intro putS.eq_1 hx) ?_ | refine SWcall.no (And.intro putS.eq_1 hx) ?_) | (apply SW.toG; first | refine SWop.yes (And.intro putS.eq_1 hx) ?_ | refine SWop.no (And.intro putS.eq_1 hx) ?_)
    have ls : (putF s1 n1 x).length = 25 := by rw [putF_len, ok.1]
    refine W.condZ G (And.intro putS.eq_1 hx) ?_ ?_
    all_goals intro hu
    · have hu' := of_decide_eq_true hu
      have e2 : takeB (s1, n1) x = (permF (putF s1 n1 x), 0) := by unfold takeB; rw [if_pos (by show n1 + 1 = 136; omega)]
      repeat' first
        | refine W.seq ?_ | (refine W.regS G ?_; dsimp only) | refine SW.nil ?_ | refine thenQ_normal ?_ | refine W.skip ?_ | refine W.exit ?_ | refine thenQ_exit ?_ | refine inBlockQ_exit ?_ | refine inBlockQ_normal ?_ | refine W.block ?_
        | (apply SW.toC; refine SWcall.go (And.intro permS.eq_1 ls) ?_) | (apply SW.toOp; refine SWop.go (And.intro permS.eq_1 ls) ?_) | (apply SW.toCG; first | refine SWcall.yes (And.intro permS.eq_1 ls) ?_ | refine SWcall.no (And.intro permS.eq_1 ls) ?_) | (apply SW.toG; first | refine SWop.yes (And.intro permS.eq_1 ls) ?_ | refine SWop.no (And.intro permS.eq_1 ls) ?_)
      refine ⟨⟨i + 1, by omega⟩, Imp.le ?_, by show _ - (i + 1) < _ - i; omega⟩
      exact sL_leZ (And.intro e (And.intro e2 (And.intro permS.eq_1 ls)))
    · have hu' := of_decide_eq_false hu
      have e2 : takeB (s1, n1) x = (putF s1 n1 x, n1 + 1) := by unfold takeB; rw [if_neg (by show ¬ n1 + 1 = 136; omega)]
      repeat' first
        | refine W.seq ?_ | (refine W.regS G ?_; dsimp only) | refine SW.nil ?_ | refine thenQ_normal ?_ | refine W.skip ?_ | refine W.exit ?_ | refine thenQ_exit ?_ | refine inBlockQ_exit ?_ | refine inBlockQ_normal ?_ | refine W.block ?_
        | (apply SW.toC; refine SWcall.go True.intro ?_) | (apply SW.toOp; refine SWop.go True.intro ?_) | (apply SW.toCG; first | refine SWcall.yes True.intro ?_ | refine SWcall.no True.intro ?_) | (apply SW.toG; first | refine SWop.yes True.intro ?_ | refine SWop.no True.intro ?_)
      refine ⟨⟨i + 1, by omega⟩, Imp.le ?_, by show _ - (i + 1) < _ - i; omega⟩
      exact sL_leZ (And.intro e e2)
  have ht' := of_decide_eq_false ht
  have hh := hend (by omega)
  repeat' first
    | refine W.seq ?_ | (refine W.regS G ?_; dsimp only) | refine SW.nil ?_ | refine thenQ_normal ?_ | refine W.skip ?_ | refine W.exit ?_ | refine thenQ_exit ?_ | refine inBlockQ_exit ?_ | refine inBlockQ_normal ?_ | refine W.block ?_
    | (apply SW.toC; refine SWcall.go True.intro ?_) | (apply SW.toOp; refine SWop.go True.intro ?_) | (apply SW.toCG; first | refine SWcall.yes True.intro ?_ | refine SWcall.no True.intro ?_) | (apply SW.toG; first | refine SWop.yes True.intro ?_ | refine SWop.no True.intro ?_)
  exact fin0Z hh

/-! ### the hash of what was taken -/
def hOut (s : List (BitVec 64)) (k : Nat) : List (BitVec 8) := itN (fun i h => h.set i (BitVec.setWidth 8 (s.getD (i / 8) 0 >>> (8 * (i % 8))))) k (zeros 8 32)
noncomputable def hashF (p : List (BitVec 64) × Nat) : List (BitVec 8) := hOut (permF (putF (putF p.1 p.2 1#8) 135 128#8)) 32
noncomputable def hashS : FSpec := { run := fun ins => match ins with
  | [.st [.agg 25 (.u 64 s), .i n]] => chk (s.length = 25 ∧ 0 ≤ n ∧ n < 136) (some (.agg 32 (.u 8 (hashF (s, n.toNat))), []))
  | _ => none }
theorem hash_sound : SoundFn Tryd.prog glB 15 hashS.run := by
  have G := good_of (P := Tryd.prog) glB_ro (l := [(16, permS), (19, putS)]) (by simp only [List.forall_mem_cons]; exact ⟨perm_sound, put_sound, by simp⟩)
  refine soundFn_of_W G Tryd.func15 (by decide) rfl (by decide) ?_
  intro ins ret outs h
  unfold hashS at h
  dsimp only at h
  split at h
  rotate_left
  · cases h
  rename_i s n
  obtain ⟨hm, h'⟩ := chk_some h
  clear h
  obtain ⟨k, rfl⟩ : ∃ k : Nat, n = k := ⟨n.toNat, by omega⟩
  cases h'
  simp only [Int.toNat_natCast]
  refine ⟨by show 1 ≤ 28; decide, fun w0 ext av => ?_⟩
  rw [Tryd.ntmps15, st0_eq]
  have ls : (putF (putF s k 1#8) 135 128#8).length = 25 := by rw [putF_len, putF_len, hm.1]
  repeat' first
    | refine W.seq ?_ | (refine W.regS G ?_; dsimp only) | refine SW.nil ?_ | refine thenQ_normal ?_ | refine W.skip ?_ | refine W.exit ?_ | refine thenQ_exit ?_ | refine inBlockQ_exit ?_ | refine inBlockQ_normal ?_ | refine W.block ?_
    | (apply SW.toC; refine SWcall.go (And.intro putS.eq_1 (And.intro permS.eq_1 ls)) ?_) | (apply SW.toOp; refine SWop.go (And.intro putS.eq_1 (And.intro permS.eq_1 ls)) ?_) | (apply SW.toCG; first | refine SWcall.yes (And.intro putS.eq_1 (And.intro permS.eq_1 ls)) ?_ | refine SWcall.no (And.intro putS.eq_1 (And.intro permS.eq_1 ls)) ?_) | (apply SW.toG; first | refine SWop.yes (And.intro putS.eq_1 (And.intro permS.eq_1 ls)) ?_ | refine SWop.no (And.intro putS.eq_1 (And.intro permS.eq_1 ls)) ?_)
  have hF : hashF (s, k) = hOut (permF (putF (putF s k 1#8) 135 128#8)) 32 := rfl
  generalize permF (putF (putF s k 1#8) 135 128#8) = s1 at hF ⊢
  refine W.loopI (ι := {i : Nat // i ≤ 32}) (fun i => sL [(1, .p 1 0 0 0), (2, .p 2 0 0 0), (3, .p 3 0 0 0), (11, .i i.1)] [(1, .st [.agg 25 (.u 64 s1), .i k]), (2, .agg 32 (.u 8 (zeros 8 32))), (3, .agg 32 (.u 8 (hOut s1 i.1)))] 28) (fun i => 32 - i.1) ⟨0, Nat.zero_le _⟩ (Imp.le ?_) ?_
  · exact sL_leZ (And.intro putS.eq_1 (And.intro permS.eq_1 ls))
  rintro ⟨i, hi⟩
  repeat' first
    | refine W.seq ?_ | (refine W.regS G ?_; dsimp only) | refine SW.nil ?_ | refine thenQ_normal ?_ | refine W.skip ?_ | refine W.exit ?_ | refine thenQ_exit ?_ | refine inBlockQ_exit ?_ | refine inBlockQ_normal ?_ | refine W.block ?_
    | (apply SW.toC; refine SWcall.go True.intro ?_) | (apply SW.toOp; refine SWop.go True.intro ?_) | (apply SW.toCG; first | refine SWcall.yes True.intro ?_ | refine SWcall.no True.intro ?_) | (apply SW.toG; first | refine SWop.yes True.intro ?_ | refine SWop.no True.intro ?_)
  refine W.condZ G True.intro ?_ ?_
  all_goals intro ht
  · have ht' := of_decide_eq_true ht
    have e1 : ((i : Int) / 8) = ((i / 8 : Nat) : Int) := by omega
    have e2 : ((i : Int) % 8) = ((i % 8 : Nat) : Int) := by omega
    have e3 : (8 * ((i % 8 : Nat) : Int)) = ((8 * (i % 8) : Nat) : Int) := by omega
    repeat' first
      | refine W.seq ?_ | (refine W.regS G ?_; dsimp only) | refine SW.nil ?_ | refine thenQ_normal ?_ | refine W.skip ?_ | refine W.exit ?_ | refine thenQ_exit ?_ | refine inBlockQ_exit ?_ | refine inBlockQ_normal ?_ | refine W.block ?_
      | (apply SW.toC; refine SWcall.go (And.intro e1 (And.intro e2 e3)) ?_) | (apply SW.toOp; refine SWop.go (And.intro e1 (And.intro e2 e3)) ?_) | (apply SW.toCG; first | refine SWcall.yes (And.intro e1 (And.intro e2 e3)) ?_ | refine SWcall.no (And.intro e1 (And.intro e2 e3)) ?_) | (apply SW.toG; first | refine SWop.yes (And.intro e1 (And.intro e2 e3)) ?_ | refine SWop.no (And.intro e1 (And.intro e2 e3)) ?_)
    refine ⟨⟨i + 1, by omega⟩, Imp.le ?_, by show _ - (i + 1) < _ - i; omega⟩
    exact sL_leZ (And.intro e1 (And.intro e2 e3))
  have ht' := of_decide_eq_false ht
  obtain rfl : i = 32 := by omega
  repeat' first
    | refine W.seq ?_ | (refine W.regS G ?_; dsimp only) | refine SW.nil ?_ | refine thenQ_normal ?_ | refine W.skip ?_ | refine W.exit ?_ | refine thenQ_exit ?_ | refine inBlockQ_exit ?_ | refine inBlockQ_normal ?_ | refine W.block ?_
    | (apply SW.toC; refine SWcall.go True.intro ?_) | (apply SW.toOp; refine SWop.go True.intro ?_) | (apply SW.toCG; first | refine SWcall.yes True.intro ?_ | refine SWcall.no True.intro ?_) | (apply SW.toG; first | refine SWop.yes True.intro ?_ | refine SWop.no True.intro ?_)
  refine W.ret ?_
  repeat' first
    | refine thenQ_ret ?_
    | refine inBlockQ_ret ?_
  refine fin1Z True.intro ?_
  rw [hF]
  exact leV_refl
end Go.Vm.C03

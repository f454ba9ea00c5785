/- What some functions of the program compute, walked through once. -/
import Derived.Test.YtpgfoccjobgniaaDoorCD
namespace Go.Vm.C04
open Go Go.Proofs
set_option linter.unusedVariables false
set_option linter.unusedSimpArgs false
set_option maxRecDepth 100000
set_option maxHeartbeats 8000000

/-! ### a digest: its numbers, its block, and where the next byte goes -/
abbrev Dg := List (BitVec 32) × List (BitVec 8) × Nat
noncomputable def putF (p : Dg) (x : BitVec 8) : Dg := if p.2.2 + 1 = 64 then (takesF p.1 (p.2.1.set p.2.2 x), p.2.1.set p.2.2 x, 0) else (p.1, p.2.1.set p.2.2 x, p.2.2 + 1)
def okP (p : Dg) : Prop := p.1.length = 8 ∧ p.2.1.length = 64 ∧ p.2.2 < 64
theorem putF_ok {p : Dg} (x : BitVec 8) (h : okP p) : okP (putF p x) ∧ (putF p x).2.2 = (p.2.2 + 1) % 64 := by
  obtain ⟨h1, h2, h3⟩ := h
  unfold putF
  split
  · exact ⟨⟨by rw [takesF_len]; exact h1, by rw [List.length_set]; exact h2, by show 0 < 64; decide⟩, by show 0 = _; omega⟩
  · exact ⟨⟨h1, by rw [List.length_set]; exact h2, by show p.2.2 + 1 < 64; omega⟩, by show p.2.2 + 1 = _; omega⟩
noncomputable def stV (p : Dg) (n : BitVec 64) : V := .st [.agg 8 (.u 32 p.1), .agg 64 (.u 8 p.2.1), .i (p.2.2 : Int), .u 64 n]
noncomputable def putS : FSpec := { run := fun ins => match ins with
  | [.ref 0 0 (.st [.agg 8 (.u 32 h), .agg 64 (.u 8 b), .i m, .u 64 n]), .u 8 x] => chk (h.length = 8 ∧ b.length = 64 ∧ 0 ≤ m ∧ m < 64)
      (some (.tup [], [.st [.agg 8 (.u 32 (putF (h, b, m.toNat) x).1), .agg 64 (.u 8 (putF (h, b, m.toNat) x).2.1), .i ((putF (h, b, m.toNat) x).2.2 : Int), .u 64 n]]))
  | _ => none }
theorem put_sound : SoundFn Tryd.prog glB 22 putS.run := by
  have G := good_of (P := Tryd.prog) glB_ro (l := [(25, takesS)]) (by simp only [List.forall_mem_cons]; exact ⟨takes_sound, by simp⟩)
  refine soundFn_of_W G Tryd.func22 (by decide) rfl (by decide) ?_
  intro ins ret outs h
  unfold putS at h
  dsimp only at h
  split at h
  rotate_left
  · cases h
  rename_i h0 b m n x
  obtain ⟨hl, h'⟩ := chk_some h
  clear h
  obtain ⟨k, rfl⟩ : ∃ k : Nat, m = k := ⟨m.toNat, by omega⟩
  cases h'
  simp only [Int.toNat_natCast]
  obtain ⟨lh, lb, hm, hk⟩ := hl
  have lb2 : (b.set k x).length = 64 := by rw [List.length_set, lb]
  refine ⟨by show 2 ≤ 30; decide, fun w0 ext av => ?_⟩
  rw [Tryd.ntmps22, st0_eq]
  repeat' first
    | refine W.seq ?_ | (refine W.regS G ?_; dsimp only) | refine SW.nil ?_ | refine thenQ_normal ?_ | refine W.skip ?_ | refine W.exit ?_ | refine thenQ_exit ?_ | refine inBlockQ_exit ?_ | refine inBlockQ_normal ?_
    | (apply SW.toC; refine SWcall.go True.intro ?_) | (apply SW.toOp; refine SWop.go True.intro ?_) | (apply SW.toCG; first | refine SWcall.yes True.intro ?_ | refine SWcall.no True.intro ?_) | (apply SW.toG; first | refine SWop.yes True.intro ?_ | refine SWop.no True.intro ?_)
  refine W.drawS G [[], [], [1], [2, 1], [3, 2, 1], [], [0], [6, 0], [7, 6, 0, 4, 3, 2, 1, 5], [8, 7, 6, 0, 4, 3, 2, 1, 5]] hmix ?_
  dsimp only
  repeat' first
    | (apply DW.nil; (focus (decide +kernel)))
    | (apply DW.toC; refine DWcall.go True.intro ?_) | (apply DW.toOp; refine DWop.go True.intro ?_) | (apply DW.toCG; first | refine DWcall.yes True.intro ?_ | refine DWcall.no True.intro ?_) | (apply DW.toG; first | refine DWop.yes True.intro ?_ | refine DWop.no True.intro ?_)
  repeat' first
    | refine W.seq ?_ | (refine W.regS G ?_; dsimp only) | refine SW.nil ?_ | refine thenQ_normal ?_ | refine W.skip ?_ | refine W.exit ?_ | refine thenQ_exit ?_ | refine inBlockQ_exit ?_ | refine inBlockQ_normal ?_ | refine W.block ?_
    | (apply SW.toC; refine SWcall.go True.intro ?_) | (apply SW.toOp; refine SWop.go True.intro ?_) | (apply SW.toCG; first | refine SWcall.yes True.intro ?_ | refine SWcall.no True.intro ?_) | (apply SW.toG; first | refine SWop.yes True.intro ?_ | refine SWop.no True.intro ?_)
  refine W.condZ G True.intro ?_ ?_
  all_goals intro hc
  · have hc' := of_decide_eq_true hc
    have e : putF (h0, b, k) x = (takesF h0 (b.set k x), b.set k x, 0) := if_pos (by show k + 1 = 64; omega)
    rw [e]
    repeat' first
      | refine W.seq ?_ | (refine W.regS G ?_; dsimp only) | refine SW.nil ?_ | refine thenQ_normal ?_ | refine W.skip ?_ | refine W.exit ?_ | refine thenQ_exit ?_ | refine inBlockQ_exit ?_ | refine inBlockQ_normal ?_ | refine W.block ?_
      | (apply SW.toC; refine SWcall.go (And.intro takesS.eq_1 (And.intro lh lb2)) ?_) | (apply SW.toOp; refine SWop.go (And.intro takesS.eq_1 (And.intro lh lb2)) ?_) | (apply SW.toCG; first | refine SWcall.yes (And.intro takesS.eq_1 (And.intro lh lb2)) ?_ | refine SWcall.no (And.intro takesS.eq_1 (And.intro lh lb2)) ?_) | (apply SW.toG; first | refine SWop.yes (And.intro takesS.eq_1 (And.intro lh lb2)) ?_ | refine SWop.no (And.intro takesS.eq_1 (And.intro lh lb2)) ?_)
    exact fin0Z (And.intro takesS.eq_1 (And.intro lh lb2))
  · have hc' := of_decide_eq_false hc
    have e : putF (h0, b, k) x = (h0, b.set k x, k + 1) := if_neg (by show ¬ (k + 1 = 64); omega)
    rw [e]
    repeat' first
      | refine W.seq ?_ | (refine W.regS G ?_; dsimp only) | refine SW.nil ?_ | refine thenQ_normal ?_ | refine W.skip ?_ | refine W.exit ?_ | refine thenQ_exit ?_ | refine inBlockQ_exit ?_ | refine inBlockQ_normal ?_ | refine W.block ?_
      | (apply SW.toC; refine SWcall.go True.intro ?_) | (apply SW.toOp; refine SWop.go True.intro ?_) | (apply SW.toCG; first | refine SWcall.yes True.intro ?_ | refine SWcall.no True.intro ?_) | (apply SW.toG; first | refine SWop.yes True.intro ?_ | refine SWop.no True.intro ?_)
    have e2 : ((k + 1 : Nat) : Int) = (k : Int) + 1 := by omega
    exact fin0Z e2

noncomputable def puts (b : List (BitVec 8)) (k : Nat) (p : Dg) : Dg := itN (fun i p => putF p (b.getD i 0)) k p
theorem puts_ok (b : List (BitVec 8)) (k : Nat) {p : Dg} (h : okP p) : okP (puts b k p) ∧ (puts b k p).2.2 = (p.2.2 + k) % 64 := by
  induction k with
  | zero => exact ⟨h, (Nat.mod_eq_of_lt h.2.2).symm⟩
  | succ k ih =>
    have e : puts b (k + 1) p = putF (puts b k p) (b.getD k 0) := itN_succ _ _ _
    have := putF_ok (b.getD k 0) ih.1
    rw [e]
    exact ⟨this.1, by rw [this.2, ih.2]; omega⟩
noncomputable def writeS : FSpec := { run := fun ins => match ins with
  | [.ref 0 0 (.st [.agg 8 (.u 32 h), .agg 64 (.u 8 b), .i m, .u 64 n]), .sl false (.u 8 x)] => chk (h.length = 8 ∧ b.length = 64 ∧ 0 ≤ m ∧ m < 64 ∧ x.length ≤ 140737488355328)
      (some (.tup [], [.st [.agg 8 (.u 32 (puts x x.length (h, b, m.toNat)).1), .agg 64 (.u 8 (puts x x.length (h, b, m.toNat)).2.1), .i ((puts x x.length (h, b, m.toNat)).2.2 : Int), .u 64 (n + BitVec.ofInt 64 (x.length : Int))]]))
  | _ => none }
theorem write_sound : SoundFn Tryd.prog glB 17 writeS.run := by
  have G := good_of (P := Tryd.prog) glB_ro (l := [(22, putS)]) (by simp only [List.forall_mem_cons]; exact ⟨put_sound, by simp⟩)
  refine soundFn_of_W G Tryd.func17 (by decide) rfl (by decide) ?_
  intro ins ret outs h
  unfold writeS at h
  dsimp only at h
  split at h
  rotate_left
  · cases h
  rename_i h0 b m n x
  obtain ⟨hl, h'⟩ := chk_some h
  clear h
  obtain ⟨k, rfl⟩ : ∃ k : Nat, m = k := ⟨m.toNat, by omega⟩
  cases h'
  simp only [Int.toNat_natCast]
  obtain ⟨lh, lb, hm, hk, hx⟩ := hl
  refine ⟨by show 2 ≤ 26; decide, fun w0 ext av => ?_⟩
  rw [Tryd.ntmps17, st0_eq]
  repeat' first
    | refine W.seq ?_ | (refine W.regS G ?_; dsimp only) | refine SW.nil ?_ | refine thenQ_normal ?_ | refine W.skip ?_ | refine W.exit ?_ | refine thenQ_exit ?_ | refine inBlockQ_exit ?_ | refine inBlockQ_normal ?_
    | (apply SW.toC; refine SWcall.go True.intro ?_) | (apply SW.toOp; refine SWop.go True.intro ?_) | (apply SW.toCG; first | refine SWcall.yes True.intro ?_ | refine SWcall.no True.intro ?_) | (apply SW.toG; first | refine SWop.yes True.intro ?_ | refine SWop.no True.intro ?_)
  refine W.mid (sL [(0, .p 1000 0 0 0), (1, .sl false (.u 8 x))] [(1000, .st [.agg 8 (.u 32 (puts x x.length (h0, b, k)).1), .agg 64 (.u 8 (puts x x.length (h0, b, k)).2.1), .i ((puts x x.length (h0, b, k)).2.2 : Int), .u 64 n])] 26) ?_ ?_
  · repeat' first
      | refine W.seq ?_ | (refine W.regS G ?_; dsimp only) | refine SW.nil ?_ | refine thenQ_normal ?_ | refine W.skip ?_ | refine W.exit ?_ | refine thenQ_exit ?_ | refine inBlockQ_exit ?_ | refine inBlockQ_normal ?_ | refine W.block ?_
      | (apply SW.toC; refine SWcall.go True.intro ?_) | (apply SW.toOp; refine SWop.go True.intro ?_) | (apply SW.toCG; first | refine SWcall.yes True.intro ?_ | refine SWcall.no True.intro ?_) | (apply SW.toG; first | refine SWop.yes True.intro ?_ | refine SWop.no True.intro ?_)
    refine W.loopI (ι := {i : Nat // i ≤ x.length}) (fun i => sL [(0, .p 1000 0 0 0), (1, .sl false (.u 8 x)), (6, .sl false (.u 8 x)), (7, .i x.length), (8, .i i.1)] [(1000, .st [.agg 8 (.u 32 (puts x i.1 (h0, b, k)).1), .agg 64 (.u 8 (puts x i.1 (h0, b, k)).2.1), .i ((puts x i.1 (h0, b, k)).2.2 : Int), .u 64 n])] 26) (fun i => x.length - i.1) ⟨0, Nat.zero_le _⟩ (Imp.le ?_) ?_
    · exact sL_leZ True.intro
    rintro ⟨i, hi⟩
    have e : puts x (i + 1) (h0, b, k) = putF (puts x i (h0, b, k)) (x.getD i 0) := itN_succ _ _ _
    have hend : i = x.length → puts x x.length (h0, b, k) = puts x i (h0, b, k) := by rintro rfl; rfl
    have ok := puts_ok x i (p := (h0, b, k)) ⟨lh, lb, by show k < 64; omega⟩
    generalize puts x i (h0, b, k) = p at e hend ok ⊢
    obtain ⟨h1, b1, m1⟩ := p
    obtain ⟨⟨g1, g2, g3⟩, g4⟩ := ok
    dsimp only at e hend g1 g2 g3 ⊢
    repeat' first
      | refine W.seq ?_ | (refine W.regS G ?_; dsimp only) | refine SW.nil ?_ | refine thenQ_normal ?_ | refine W.skip ?_ | refine W.exit ?_ | refine thenQ_exit ?_ | refine inBlockQ_exit ?_ | refine inBlockQ_normal ?_ | refine W.block ?_
      | (apply SW.toC; refine SWcall.go True.intro ?_) | (apply SW.toOp; refine SWop.go True.intro ?_) | (apply SW.toCG; first | refine SWcall.yes True.intro ?_ | refine SWcall.no True.intro ?_) | (apply SW.toG; first | refine SWop.yes True.intro ?_ | refine SWop.no True.intro ?_)
    refine W.condZ G True.intro ?_ ?_
    all_goals intro ht
    · have ht' := of_decide_eq_true ht
      repeat' first
        | refine W.seq ?_ | (refine W.regS G ?_; dsimp only) | refine SW.nil ?_ | refine thenQ_normal ?_ | refine W.skip ?_ | refine W.exit ?_ | refine thenQ_exit ?_ | refine inBlockQ_exit ?_ | refine inBlockQ_normal ?_ | refine W.block ?_
        | (apply SW.toC; refine SWcall.go (And.intro putS.eq_1 (And.intro g1 g2)) ?_) | (apply SW.toOp; refine SWop.go (And.intro putS.eq_1 (And.intro g1 g2)) ?_) | (apply SW.toCG; first | refine SWcall.yes (And.intro putS.eq_1 (And.intro g1 g2)) ?_ | refine SWcall.no (And.intro putS.eq_1 (And.intro g1 g2)) ?_) | (apply SW.toG; first | refine SWop.yes (And.intro putS.eq_1 (And.intro g1 g2)) ?_ | refine SWop.no (And.intro putS.eq_1 (And.intro g1 g2)) ?_)
      refine ⟨⟨i + 1, by omega⟩, Imp.le ?_, by show _ - (i + 1) < _ - i; omega⟩
      exact sL_leZ (And.intro e (And.intro putS.eq_1 (And.intro g1 g2)))
    have ht' := of_decide_eq_false ht
    obtain rfl : i = x.length := by omega
    have hh := hend rfl
    repeat' first
      | refine W.seq ?_ | (refine W.regS G ?_; dsimp only) | refine SW.nil ?_ | refine thenQ_normal ?_ | refine W.skip ?_ | refine W.exit ?_ | refine thenQ_exit ?_ | refine inBlockQ_exit ?_ | refine inBlockQ_normal ?_ | refine W.block ?_
      | (apply SW.toC; refine SWcall.go True.intro ?_) | (apply SW.toOp; refine SWop.go True.intro ?_) | (apply SW.toCG; first | refine SWcall.yes True.intro ?_ | refine SWcall.no True.intro ?_) | (apply SW.toG; first | refine SWop.yes True.intro ?_ | refine SWop.no True.intro ?_)
    refine Imp.le ?_
    exact sL_leZ hh
  generalize puts x x.length (h0, b, k) = p
  repeat' first
    | refine W.seq ?_ | (refine W.regS G ?_; dsimp only) | refine SW.nil ?_ | refine thenQ_normal ?_ | refine W.skip ?_ | refine W.exit ?_ | refine thenQ_exit ?_ | refine inBlockQ_exit ?_ | refine inBlockQ_normal ?_ | refine W.block ?_
    | (apply SW.toC; refine SWcall.go True.intro ?_) | (apply SW.toOp; refine SWop.go True.intro ?_) | (apply SW.toCG; first | refine SWcall.yes True.intro ?_ | refine SWcall.no True.intro ?_) | (apply SW.toG; first | refine SWop.yes True.intro ?_ | refine SWop.no True.intro ?_)
  exact fin0Z True.intro

/-! ### the hash of what was taken -/
noncomputable def padP (p : Dg) (j : Nat) : Dg := itN (fun _ p => putF p 0#8) j (putF p 128#8)
noncomputable def lenP (n : BitVec 64) (j : Nat) (p : Dg) : Dg := itN (fun j p => putF p (BitVec.setWidth 8 (n >>> (8 * (7 - j))))) j p
def outF (h : List (BitVec 32)) (k : Nat) : List (BitVec 8) := itN (fun i o => o.set i (BitVec.setWidth 8 (h.getD (i / 4) 0 >>> (24 - 8 * (i % 4))))) k (zeros 8 32)
def padZ (m : Nat) : Nat := (119 - m) % 64
noncomputable def hashF (p : Dg) (n : BitVec 64) : List (BitVec 8) := outF (lenP (8#64 * n) 8 (padP p (padZ p.2.2))).1 32
theorem padP_ok {p : Dg} (h : okP p) (j : Nat) : okP (padP p j) ∧ (padP p j).2.2 = (p.2.2 + 1 + j) % 64 := by
  induction j with
  | zero => have := putF_ok 128#8 h; exact ⟨this.1, this.2⟩
  | succ j ih =>
    have e : padP p (j + 1) = putF (padP p j) 0#8 := itN_succ _ _ _
    have := putF_ok 0#8 ih.1
    rw [e]
    exact ⟨this.1, by rw [this.2, ih.2]; omega⟩
theorem lenP_ok {p : Dg} (h : okP p) (n : BitVec 64) (j : Nat) : okP (lenP n j p) :=
  itN_inv (p := fun (q : Dg) => okP q) (fun _ _ hq => (putF_ok _ hq).1) j h
noncomputable def hashS : FSpec := { run := fun ins => match ins with
  | [.st [.agg 8 (.u 32 h), .agg 64 (.u 8 b), .i m, .u 64 n]] => chk (h.length = 8 ∧ b.length = 64 ∧ 0 ≤ m ∧ m < 64) (some (.agg 32 (.u 8 (hashF (h, b, m.toNat) n)), []))
  | _ => none }
theorem hash_sound : SoundFn Tryd.prog glB 18 hashS.run := by
  have G := good_of (P := Tryd.prog) glB_ro (l := [(22, putS)]) (by simp only [List.forall_mem_cons]; exact ⟨put_sound, by simp⟩)
  refine soundFn_of_W G Tryd.func18 (by decide) rfl (by decide) ?_
  intro ins ret outs h
  unfold hashS at h
  dsimp only at h
  split at h
  rotate_left
  · cases h
  rename_i h0 b m n
  obtain ⟨hl, h'⟩ := chk_some h
  clear h
  obtain ⟨k, rfl⟩ : ∃ k : Nat, m = k := ⟨m.toNat, by omega⟩
  cases h'
  simp only [Int.toNat_natCast]
  obtain ⟨lh, lb, hm, hk⟩ := hl
  have ok0 : okP (h0, b, k) := ⟨lh, lb, by show k < 64; omega⟩
  refine ⟨by show 1 ≤ 43; decide, fun w0 ext av => ?_⟩
  rw [Tryd.ntmps18, st0_eq]
  have hF : hashF (h0, b, k) n = outF (lenP (8#64 * n) 8 (padP (h0, b, k) (padZ k))).1 32 := rfl
  have hZ : padZ k = (119 - k) % 64 := rfl
  generalize padZ k = Z at hF hZ
  repeat' first
    | refine W.seq ?_ | (refine W.regS G ?_; dsimp only) | refine SW.nil ?_ | refine thenQ_normal ?_ | refine W.skip ?_ | refine W.exit ?_ | refine thenQ_exit ?_ | refine inBlockQ_exit ?_ | refine inBlockQ_normal ?_
    | (apply SW.toC; refine SWcall.go (And.intro putS.eq_1 (And.intro lh lb)) ?_) | (apply SW.toOp; refine SWop.go (And.intro putS.eq_1 (And.intro lh lb)) ?_) | (apply SW.toCG; first | refine SWcall.yes (And.intro putS.eq_1 (And.intro lh lb)) ?_ | refine SWcall.no (And.intro putS.eq_1 (And.intro lh lb)) ?_) | (apply SW.toG; first | refine SWop.yes (And.intro putS.eq_1 (And.intro lh lb)) ?_ | refine SWop.no (And.intro putS.eq_1 (And.intro lh lb)) ?_)
  have hp0 : padP (h0, b, k) 0 = putF (h0, b, k) 128#8 := rfl
  refine W.mid (sL [(1, .p 1 0 0 0), (2, .p 2 0 0 0), (3, .u 64 (8#64 * n))] [(1, .st [.agg 8 (.u 32 (padP (h0, b, k) Z).1), .agg 64 (.u 8 (padP (h0, b, k) Z).2.1), .i ((padP (h0, b, k) Z).2.2 : Int), .u 64 n]), (2, .agg 32 (.u 8 (zeros 8 32)))] 43) ?_ ?_
  · repeat' first
      | refine W.seq ?_ | (refine W.regS G ?_; dsimp only) | refine SW.nil ?_ | refine thenQ_normal ?_ | refine W.skip ?_ | refine W.exit ?_ | refine thenQ_exit ?_ | refine inBlockQ_exit ?_ | refine inBlockQ_normal ?_ | refine W.block ?_
      | (apply SW.toC; refine SWcall.go (And.intro putS.eq_1 (And.intro lh lb)) ?_) | (apply SW.toOp; refine SWop.go (And.intro putS.eq_1 (And.intro lh lb)) ?_) | (apply SW.toCG; first | refine SWcall.yes (And.intro putS.eq_1 (And.intro lh lb)) ?_ | refine SWcall.no (And.intro putS.eq_1 (And.intro lh lb)) ?_) | (apply SW.toG; first | refine SWop.yes (And.intro putS.eq_1 (And.intro lh lb)) ?_ | refine SWop.no (And.intro putS.eq_1 (And.intro lh lb)) ?_)
    refine W.loopI (ι := {j : Nat // j ≤ Z}) (fun j => sL [(1, .p 1 0 0 0), (2, .p 2 0 0 0), (3, .u 64 (8#64 * n))] [(1, .st [.agg 8 (.u 32 (padP (h0, b, k) j.1).1), .agg 64 (.u 8 (padP (h0, b, k) j.1).2.1), .i ((padP (h0, b, k) j.1).2.2 : Int), .u 64 n]), (2, .agg 32 (.u 8 (zeros 8 32)))] 43) (fun j => Z - j.1) ⟨0, Nat.zero_le _⟩ (Imp.le ?_) ?_
    · exact sL_leZ (And.intro hp0 (And.intro putS.eq_1 (And.intro lh lb)))
    rintro ⟨j, hj⟩
    have e : padP (h0, b, k) (j + 1) = putF (padP (h0, b, k) j) 0#8 := itN_succ _ _ _
    have hend : j = Z → padP (h0, b, k) Z = padP (h0, b, k) j := by rintro rfl; rfl
    have ok := padP_ok ok0 j
    generalize padP (h0, b, k) j = p at e hend ok ⊢
    obtain ⟨h1, b1, m1⟩ := p
    obtain ⟨⟨g1, g2, g3⟩, g4⟩ := ok
    dsimp only at e hend g1 g2 g3 g4 ⊢
    repeat' first
      | refine W.seq ?_ | (refine W.regS G ?_; dsimp only) | refine SW.nil ?_ | refine thenQ_normal ?_ | refine W.skip ?_ | refine W.exit ?_ | refine thenQ_exit ?_ | refine inBlockQ_exit ?_ | refine inBlockQ_normal ?_ | refine W.block ?_
      | (apply SW.toC; refine SWcall.go True.intro ?_) | (apply SW.toOp; refine SWop.go True.intro ?_) | (apply SW.toCG; first | refine SWcall.yes True.intro ?_ | refine SWcall.no True.intro ?_) | (apply SW.toG; first | refine SWop.yes True.intro ?_ | refine SWop.no True.intro ?_)
    refine W.condZ G True.intro ?_ ?_
    all_goals intro ht
    · have ht' := ne_of_nd ht
      repeat' first
        | refine W.seq ?_ | (refine W.regS G ?_; dsimp only) | refine SW.nil ?_ | refine thenQ_normal ?_ | refine W.skip ?_ | refine W.exit ?_ | refine thenQ_exit ?_ | refine inBlockQ_exit ?_ | refine inBlockQ_normal ?_ | refine W.block ?_
        | (apply SW.toC; refine SWcall.go (And.intro putS.eq_1 (And.intro g1 g2)) ?_) | (apply SW.toOp; refine SWop.go (And.intro putS.eq_1 (And.intro g1 g2)) ?_) | (apply SW.toCG; first | refine SWcall.yes (And.intro putS.eq_1 (And.intro g1 g2)) ?_ | refine SWcall.no (And.intro putS.eq_1 (And.intro g1 g2)) ?_) | (apply SW.toG; first | refine SWop.yes (And.intro putS.eq_1 (And.intro g1 g2)) ?_ | refine SWop.no (And.intro putS.eq_1 (And.intro g1 g2)) ?_)
      refine ⟨⟨j + 1, by omega⟩, Imp.le ?_, by show _ - (j + 1) < _ - j; omega⟩
      exact sL_leZ (And.intro e (And.intro putS.eq_1 (And.intro g1 g2)))
    have ht' := eq_of_nd ht
    obtain rfl : j = Z := by omega
    have hh := hend rfl
    repeat' first
      | refine W.seq ?_ | (refine W.regS G ?_; dsimp only) | refine SW.nil ?_ | refine thenQ_normal ?_ | refine W.skip ?_ | refine W.exit ?_ | refine thenQ_exit ?_ | refine inBlockQ_exit ?_ | refine inBlockQ_normal ?_ | refine W.block ?_
      | (apply SW.toC; refine SWcall.go True.intro ?_) | (apply SW.toOp; refine SWop.go True.intro ?_) | (apply SW.toCG; first | refine SWcall.yes True.intro ?_ | refine SWcall.no True.intro ?_) | (apply SW.toG; first | refine SWop.yes True.intro ?_ | refine SWop.no True.intro ?_)
    refine Imp.le ?_
    exact sL_leZ hh
  have ok1 := (padP_ok ok0 Z).1
  generalize padP (h0, b, k) Z = p1 at hF ok1 ⊢
  generalize 8#64 * n = N at hF ⊢
  repeat' first
    | refine W.seq ?_ | (refine W.regS G ?_; dsimp only) | refine SW.nil ?_ | refine thenQ_normal ?_ | refine W.skip ?_ | refine W.exit ?_ | refine thenQ_exit ?_ | refine inBlockQ_exit ?_ | refine inBlockQ_normal ?_
    | (apply SW.toC; refine SWcall.go True.intro ?_) | (apply SW.toOp; refine SWop.go True.intro ?_) | (apply SW.toCG; first | refine SWcall.yes True.intro ?_ | refine SWcall.no True.intro ?_) | (apply SW.toG; first | refine SWop.yes True.intro ?_ | refine SWop.no True.intro ?_)
  refine W.mid (sL [(1, .p 1 0 0 0), (2, .p 2 0 0 0)] [(1, .st [.agg 8 (.u 32 (lenP N 8 p1).1), .agg 64 (.u 8 (lenP N 8 p1).2.1), .i ((lenP N 8 p1).2.2 : Int), .u 64 n]), (2, .agg 32 (.u 8 (zeros 8 32)))] 43) ?_ ?_
  · repeat' first
      | refine W.seq ?_ | (refine W.regS G ?_; dsimp only) | refine SW.nil ?_ | refine thenQ_normal ?_ | refine W.skip ?_ | refine W.exit ?_ | refine thenQ_exit ?_ | refine inBlockQ_exit ?_ | refine inBlockQ_normal ?_ | refine W.block ?_
      | (apply SW.toC; refine SWcall.go True.intro ?_) | (apply SW.toOp; refine SWop.go True.intro ?_) | (apply SW.toCG; first | refine SWcall.yes True.intro ?_ | refine SWcall.no True.intro ?_) | (apply SW.toG; first | refine SWop.yes True.intro ?_ | refine SWop.no True.intro ?_)
    refine W.loopI (ι := {j : Nat // j ≤ 8}) (fun j => sL [(1, .p 1 0 0 0), (2, .p 2 0 0 0), (3, .u 64 N), (4, .i (7 - (j.1 : Int)))] [(1, .st [.agg 8 (.u 32 (lenP N j.1 p1).1), .agg 64 (.u 8 (lenP N j.1 p1).2.1), .i ((lenP N j.1 p1).2.2 : Int), .u 64 n]), (2, .agg 32 (.u 8 (zeros 8 32)))] 43) (fun j => 8 - j.1) ⟨0, Nat.zero_le _⟩ (Imp.le ?_) ?_
    · exact sL_leZ True.intro
    rintro ⟨j, hj⟩
    have e : lenP N (j + 1) p1 = putF (lenP N j p1) (BitVec.setWidth 8 (N >>> (8 * (7 - j)))) := itN_succ _ _ _
    have hend : j = 8 → lenP N 8 p1 = lenP N j p1 := by rintro rfl; rfl
    have ok := lenP_ok ok1 N j
    generalize lenP N j p1 = p at e hend ok ⊢
    obtain ⟨h1, b1, m1⟩ := p
    obtain ⟨g1, g2, g3⟩ := ok
    dsimp only at e hend g1 g2 g3 ⊢
    repeat' first
      | refine W.seq ?_ | (refine W.regS G ?_; dsimp only) | refine SW.nil ?_ | refine thenQ_normal ?_ | refine W.skip ?_ | refine W.exit ?_ | refine thenQ_exit ?_ | refine inBlockQ_exit ?_ | refine inBlockQ_normal ?_ | refine W.block ?_
      | (apply SW.toC; refine SWcall.go True.intro ?_) | (apply SW.toOp; refine SWop.go True.intro ?_) | (apply SW.toCG; first | refine SWcall.yes True.intro ?_ | refine SWcall.no True.intro ?_) | (apply SW.toG; first | refine SWop.yes True.intro ?_ | refine SWop.no True.intro ?_)
    refine W.condZ G True.intro ?_ ?_
    all_goals intro ht
    · have ht' := of_decide_eq_true ht
      have e1 : (8 * (7 - (j : Int))) = ((8 * (7 - j) : Nat) : Int) := by omega
      repeat' first
        | refine W.seq ?_ | (refine W.regS G ?_; dsimp only) | refine SW.nil ?_ | refine thenQ_normal ?_ | refine W.skip ?_ | refine W.exit ?_ | refine thenQ_exit ?_ | refine inBlockQ_exit ?_ | refine inBlockQ_normal ?_ | refine W.block ?_
        | (apply SW.toC; refine SWcall.go (And.intro putS.eq_1 (And.intro g1 (And.intro g2 e1))) ?_) | (apply SW.toOp; refine SWop.go (And.intro putS.eq_1 (And.intro g1 (And.intro g2 e1))) ?_) | (apply SW.toCG; first | refine SWcall.yes (And.intro putS.eq_1 (And.intro g1 (And.intro g2 e1))) ?_ | refine SWcall.no (And.intro putS.eq_1 (And.intro g1 (And.intro g2 e1))) ?_) | (apply SW.toG; first | refine SWop.yes (And.intro putS.eq_1 (And.intro g1 (And.intro g2 e1))) ?_ | refine SWop.no (And.intro putS.eq_1 (And.intro g1 (And.intro g2 e1))) ?_)
      refine ⟨⟨j + 1, by omega⟩, Imp.le ?_, by show _ - (j + 1) < _ - j; omega⟩
      exact sL_leZ (And.intro e (And.intro putS.eq_1 (And.intro g1 (And.intro g2 e1))))
    have ht' := of_decide_eq_false ht
    obtain rfl : j = 8 := by omega
    have hh := hend rfl
    repeat' first
      | refine W.seq ?_ | (refine W.regS G ?_; dsimp only) | refine SW.nil ?_ | refine thenQ_normal ?_ | refine W.skip ?_ | refine W.exit ?_ | refine thenQ_exit ?_ | refine inBlockQ_exit ?_ | refine inBlockQ_normal ?_ | refine W.block ?_
      | (apply SW.toC; refine SWcall.go True.intro ?_) | (apply SW.toOp; refine SWop.go True.intro ?_) | (apply SW.toCG; first | refine SWcall.yes True.intro ?_ | refine SWcall.no True.intro ?_) | (apply SW.toG; first | refine SWop.yes True.intro ?_ | refine SWop.no True.intro ?_)
    refine Imp.le ?_
    exact sL_leZ hh
  generalize lenP N 8 p1 = p2 at hF ⊢
  obtain ⟨h2, b2, m2⟩ := p2
  dsimp only at hF ⊢
  repeat' first
    | refine W.seq ?_ | (refine W.regS G ?_; dsimp only) | refine SW.nil ?_ | refine thenQ_normal ?_ | refine W.skip ?_ | refine W.exit ?_ | refine thenQ_exit ?_ | refine inBlockQ_exit ?_ | refine inBlockQ_normal ?_ | refine W.block ?_
    | (apply SW.toC; refine SWcall.go True.intro ?_) | (apply SW.toOp; refine SWop.go True.intro ?_) | (apply SW.toCG; first | refine SWcall.yes True.intro ?_ | refine SWcall.no True.intro ?_) | (apply SW.toG; first | refine SWop.yes True.intro ?_ | refine SWop.no True.intro ?_)
  refine W.loopI (ι := {i : Nat // i ≤ 32}) (fun i => sL [(1, .p 1 0 0 0), (2, .p 2 0 0 0), (5, .p 5 0 0 0), (25, .i i.1)] [(1, .st [.agg 8 (.u 32 h2), .agg 64 (.u 8 b2), .i (m2 : Int), .u 64 n]), (2, .agg 32 (.u 8 (zeros 8 32))), (5, .agg 32 (.u 8 (outF h2 i.1)))] 43) (fun i => 32 - i.1) ⟨0, Nat.zero_le _⟩ (Imp.le ?_) ?_
  · exact sL_leZ True.intro
  rintro ⟨i, hi⟩
  have e : outF h2 (i + 1) = (outF h2 i).set i (BitVec.setWidth 8 (h2.getD (i / 4) 0 >>> (24 - 8 * (i % 4)))) := itN_succ _ _ _
  have hend : i = 32 → outF h2 32 = outF h2 i := by rintro rfl; rfl
  generalize outF h2 i = o at e hend ⊢
  repeat' first
    | refine W.seq ?_ | (refine W.regS G ?_; dsimp only) | refine SW.nil ?_ | refine thenQ_normal ?_ | refine W.skip ?_ | refine W.exit ?_ | refine thenQ_exit ?_ | refine inBlockQ_exit ?_ | refine inBlockQ_normal ?_ | refine W.block ?_
    | (apply SW.toC; refine SWcall.go True.intro ?_) | (apply SW.toOp; refine SWop.go True.intro ?_) | (apply SW.toCG; first | refine SWcall.yes True.intro ?_ | refine SWcall.no True.intro ?_) | (apply SW.toG; first | refine SWop.yes True.intro ?_ | refine SWop.no True.intro ?_)
  refine W.condZ G True.intro ?_ ?_
  all_goals intro ht
  · have ht' := of_decide_eq_true ht
    have e1 : ((i : Int) / 4) = ((i / 4 : Nat) : Int) := by omega
    have e2 : ((i : Int) % 4) = ((i % 4 : Nat) : Int) := by omega
    have e3 : (24 - 8 * ((i % 4 : Nat) : Int)) = ((24 - 8 * (i % 4) : Nat) : Int) := by omega
    repeat' first
      | refine W.seq ?_ | (refine W.regS G ?_; dsimp only) | refine SW.nil ?_ | refine thenQ_normal ?_ | refine W.skip ?_ | refine W.exit ?_ | refine thenQ_exit ?_ | refine inBlockQ_exit ?_ | refine inBlockQ_normal ?_ | refine W.block ?_
      | (apply SW.toC; refine SWcall.go (And.intro e1 (And.intro e2 e3)) ?_) | (apply SW.toOp; refine SWop.go (And.intro e1 (And.intro e2 e3)) ?_) | (apply SW.toCG; first | refine SWcall.yes (And.intro e1 (And.intro e2 e3)) ?_ | refine SWcall.no (And.intro e1 (And.intro e2 e3)) ?_) | (apply SW.toG; first | refine SWop.yes (And.intro e1 (And.intro e2 e3)) ?_ | refine SWop.no (And.intro e1 (And.intro e2 e3)) ?_)
    refine ⟨⟨i + 1, by omega⟩, Imp.le ?_, by show _ - (i + 1) < _ - i; omega⟩
    exact sL_leZ (And.intro e (And.intro e1 (And.intro e2 e3)))
  have ht' := of_decide_eq_false ht
  obtain rfl : i = 32 := by omega
  have hh := hend rfl
  repeat' first
    | refine W.seq ?_ | (refine W.regS G ?_; dsimp only) | refine SW.nil ?_ | refine thenQ_normal ?_ | refine W.skip ?_ | refine W.exit ?_ | refine thenQ_exit ?_ | refine inBlockQ_exit ?_ | refine inBlockQ_normal ?_ | refine W.block ?_
    | (apply SW.toC; refine SWcall.go True.intro ?_) | (apply SW.toOp; refine SWop.go True.intro ?_) | (apply SW.toCG; first | refine SWcall.yes True.intro ?_ | refine SWcall.no True.intro ?_) | (apply SW.toG; first | refine SWop.yes True.intro ?_ | refine SWop.no True.intro ?_)
  refine W.ret ?_
  repeat' first
    | refine thenQ_ret ?_
    | refine inBlockQ_ret ?_
  refine fin1Z True.intro ?_
  rw [hF, hh]
  exact leV_refl
end Go.Vm.C04

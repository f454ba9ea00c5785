/- What some functions of the program compute, walked through once. -/
import Derived.Test.YtioffpklmlmhcaaDoorCI
import Derived.KernelRfl
namespace Go.Vm.C03
open Go Go.Proofs
set_option linter.unusedVariables false
set_option linter.unusedSimpArgs false
set_option maxRecDepth 100000
set_option maxHeartbeats 8000000

theorem len25 {α : Type} (l : List α) (h : l.length = 25) : ∃ s0 s1 s2 s3 s4 s5 s6 s7 s8 s9 s10 s11 s12 s13 s14 s15 s16 s17 s18 s19 s20 s21 s22 s23 s24, l = [s0, s1, s2, s3, s4, s5, s6, s7, s8, s9, s10, s11, s12, s13, s14, s15, s16, s17, s18, s19, s20, s21, s22, s23, s24] := by
  match l, h with
  | [s0, s1, s2, s3, s4, s5, s6, s7, s8, s9, s10, s11, s12, s13, s14, s15, s16, s17, s18, s19, s20, s21, s22, s23, s24], _ => exact ⟨s0, s1, s2, s3, s4, s5, s6, s7, s8, s9, s10, s11, s12, s13, s14, s15, s16, s17, s18, s19, s20, s21, s22, s23, s24, rfl⟩
theorem len5 {α : Type} (l : List α) (h : l.length = 5) : ∃ c0 c1 c2 c3 c4, l = [c0, c1, c2, c3, c4] := by
  match l, h with
  | [c0, c1, c2, c3, c4], _ => exact ⟨c0, c1, c2, c3, c4, rfl⟩
def tr (s : List (BitVec 64)) : List (BitVec 64) := [s.getD 0 0, s.getD 5 0, s.getD 10 0, s.getD 15 0, s.getD 20 0, s.getD 1 0, s.getD 6 0, s.getD 11 0, s.getD 16 0, s.getD 21 0, s.getD 2 0, s.getD 7 0, s.getD 12 0, s.getD 17 0, s.getD 22 0, s.getD 3 0, s.getD 8 0, s.getD 13 0, s.getD 18 0, s.getD 23 0, s.getD 4 0, s.getD 9 0, s.getD 14 0, s.getD 19 0, s.getD 24 0]
theorem tr_ex (s0 s1 s2 s3 s4 s5 s6 s7 s8 s9 s10 s11 s12 s13 s14 s15 s16 s17 s18 s19 s20 s21 s22 s23 s24 : BitVec 64) : tr [s0, s1, s2, s3, s4, s5, s6, s7, s8, s9, s10, s11, s12, s13, s14, s15, s16, s17, s18, s19, s20, s21, s22, s23, s24] = [s0, s5, s10, s15, s20, s1, s6, s11, s16, s21, s2, s7, s12, s17, s22, s3, s8, s13, s18, s23, s4, s9, s14, s19, s24] := by kernel_rfl
theorem tr_len (s : List (BitVec 64)) : (tr s).length = 25 := rfl
theorem pC_ex (s0 s1 s2 s3 s4 s5 s6 s7 s8 s9 s10 s11 s12 s13 s14 s15 s16 s17 s18 s19 s20 s21 s22 s23 s24 : BitVec 64) (c0 c1 c2 c3 c4 : BitVec 64) : pC [s0, s1, s2, s3, s4, s5, s6, s7, s8, s9, s10, s11, s12, s13, s14, s15, s16, s17, s18, s19, s20, s21, s22, s23, s24] 5 [c0, c1, c2, c3, c4] = [s0 ^^^ s5 ^^^ s10 ^^^ s15 ^^^ s20, s1 ^^^ s6 ^^^ s11 ^^^ s16 ^^^ s21, s2 ^^^ s7 ^^^ s12 ^^^ s17 ^^^ s22, s3 ^^^ s8 ^^^ s13 ^^^ s18 ^^^ s23, s4 ^^^ s9 ^^^ s14 ^^^ s19 ^^^ s24] := by kernel_rfl
theorem rC_ex (s0 s1 s2 s3 s4 s5 s6 s7 s8 s9 s10 s11 s12 s13 s14 s15 s16 s17 s18 s19 s20 s21 s22 s23 s24 : BitVec 64) : rC [s0, s5, s10, s15, s20, s1, s6, s11, s16, s21, s2, s7, s12, s17, s22, s3, s8, s13, s18, s23, s4, s9, s14, s19, s24] 5 = [0#64 ^^^ s0 ^^^ s5 ^^^ s10 ^^^ s15 ^^^ s20, 0#64 ^^^ s1 ^^^ s6 ^^^ s11 ^^^ s16 ^^^ s21, 0#64 ^^^ s2 ^^^ s7 ^^^ s12 ^^^ s17 ^^^ s22, 0#64 ^^^ s3 ^^^ s8 ^^^ s13 ^^^ s18 ^^^ s23, 0#64 ^^^ s4 ^^^ s9 ^^^ s14 ^^^ s19 ^^^ s24] := by kernel_rfl
theorem pT_ex (s0 s1 s2 s3 s4 s5 s6 s7 s8 s9 s10 s11 s12 s13 s14 s15 s16 s17 s18 s19 s20 s21 s22 s23 s24 : BitVec 64) (c0 c1 c2 c3 c4 : BitVec 64) : pT [c0, c1, c2, c3, c4] 5 [s0, s1, s2, s3, s4, s5, s6, s7, s8, s9, s10, s11, s12, s13, s14, s15, s16, s17, s18, s19, s20, s21, s22, s23, s24] = [s0 ^^^ (c4 ^^^ rotF c1 1), s1 ^^^ (c0 ^^^ rotF c2 1), s2 ^^^ (c1 ^^^ rotF c3 1), s3 ^^^ (c2 ^^^ rotF c4 1), s4 ^^^ (c3 ^^^ rotF c0 1), s5 ^^^ (c4 ^^^ rotF c1 1), s6 ^^^ (c0 ^^^ rotF c2 1), s7 ^^^ (c1 ^^^ rotF c3 1), s8 ^^^ (c2 ^^^ rotF c4 1), s9 ^^^ (c3 ^^^ rotF c0 1), s10 ^^^ (c4 ^^^ rotF c1 1), s11 ^^^ (c0 ^^^ rotF c2 1), s12 ^^^ (c1 ^^^ rotF c3 1), s13 ^^^ (c2 ^^^ rotF c4 1), s14 ^^^ (c3 ^^^ rotF c0 1), s15 ^^^ (c4 ^^^ rotF c1 1), s16 ^^^ (c0 ^^^ rotF c2 1), s17 ^^^ (c1 ^^^ rotF c3 1), s18 ^^^ (c2 ^^^ rotF c4 1), s19 ^^^ (c3 ^^^ rotF c0 1), s20 ^^^ (c4 ^^^ rotF c1 1), s21 ^^^ (c0 ^^^ rotF c2 1), s22 ^^^ (c1 ^^^ rotF c3 1), s23 ^^^ (c2 ^^^ rotF c4 1), s24 ^^^ (c3 ^^^ rotF c0 1)] := by kernel_rfl
theorem rT_ex (s0 s1 s2 s3 s4 s5 s6 s7 s8 s9 s10 s11 s12 s13 s14 s15 s16 s17 s18 s19 s20 s21 s22 s23 s24 : BitVec 64) (c0 c1 c2 c3 c4 : BitVec 64) : rT [c0, c1, c2, c3, c4] 5 [s0, s5, s10, s15, s20, s1, s6, s11, s16, s21, s2, s7, s12, s17, s22, s3, s8, s13, s18, s23, s4, s9, s14, s19, s24] = [s0 ^^^ c4 ^^^ upF c1 1, s5 ^^^ c4 ^^^ upF c1 1, s10 ^^^ c4 ^^^ upF c1 1, s15 ^^^ c4 ^^^ upF c1 1, s20 ^^^ c4 ^^^ upF c1 1, s1 ^^^ c0 ^^^ upF c2 1, s6 ^^^ c0 ^^^ upF c2 1, s11 ^^^ c0 ^^^ upF c2 1, s16 ^^^ c0 ^^^ upF c2 1, s21 ^^^ c0 ^^^ upF c2 1, s2 ^^^ c1 ^^^ upF c3 1, s7 ^^^ c1 ^^^ upF c3 1, s12 ^^^ c1 ^^^ upF c3 1, s17 ^^^ c1 ^^^ upF c3 1, s22 ^^^ c1 ^^^ upF c3 1, s3 ^^^ c2 ^^^ upF c4 1, s8 ^^^ c2 ^^^ upF c4 1, s13 ^^^ c2 ^^^ upF c4 1, s18 ^^^ c2 ^^^ upF c4 1, s23 ^^^ c2 ^^^ upF c4 1, s4 ^^^ c3 ^^^ upF c0 1, s9 ^^^ c3 ^^^ upF c0 1, s14 ^^^ c3 ^^^ upF c0 1, s19 ^^^ c3 ^^^ upF c0 1, s24 ^^^ c3 ^^^ upF c0 1] := by kernel_rfl
theorem pR_ex (s0 s1 s2 s3 s4 s5 s6 s7 s8 s9 s10 s11 s12 s13 s14 s15 s16 s17 s18 s19 s20 s21 s22 s23 s24 : BitVec 64) : (pR [s0, s1, s2, s3, s4, s5, s6, s7, s8, s9, s10, s11, s12, s13, s14, s15, s16, s17, s18, s19, s20, s21, s22, s23, s24] 24).1 = [s0, rotF s6 44, rotF s12 43, rotF s18 21, rotF s24 14, rotF s3 28, rotF s9 20, rotF s10 3, rotF s16 45, rotF s22 61, rotF s1 1, rotF s7 6, rotF s13 25, rotF s19 8, rotF s20 18, rotF s4 27, rotF s5 36, rotF s11 10, rotF s17 15, rotF s23 56, rotF s2 62, rotF s8 55, rotF s14 39, rotF s15 41, rotF s21 2] := by kernel_rfl
theorem rRho_ex (s0 s1 s2 s3 s4 s5 s6 s7 s8 s9 s10 s11 s12 s13 s14 s15 s16 s17 s18 s19 s20 s21 s22 s23 s24 : BitVec 64) : rRho [s0, s5, s10, s15, s20, s1, s6, s11, s16, s21, s2, s7, s12, s17, s22, s3, s8, s13, s18, s23, s4, s9, s14, s19, s24] = [s0, upF s3 28, upF s1 1, upF s4 91, upF s2 190, upF s6 300, upF s9 276, upF s7 6, upF s5 36, upF s8 55, upF s12 171, upF s10 3, upF s13 153, upF s11 10, upF s14 231, upF s18 21, upF s16 45, upF s19 136, upF s17 15, upF s15 105, upF s24 78, upF s22 253, upF s20 210, upF s23 120, upF s21 66] := by kernel_rfl
theorem rot_up0 (x : BitVec 64) : rotF x 1 = upF x 1 := by kernel_rfl
theorem rot_up1 (x : BitVec 64) : rotF x 3 = upF x 3 := by kernel_rfl
theorem rot_up2 (x : BitVec 64) : rotF x 6 = upF x 6 := by kernel_rfl
theorem rot_up3 (x : BitVec 64) : rotF x 10 = upF x 10 := by kernel_rfl
theorem rot_up4 (x : BitVec 64) : rotF x 15 = upF x 15 := by kernel_rfl
theorem rot_up5 (x : BitVec 64) : rotF x 21 = upF x 21 := by kernel_rfl
theorem rot_up6 (x : BitVec 64) : rotF x 28 = upF x 28 := by kernel_rfl
theorem rot_up7 (x : BitVec 64) : rotF x 36 = upF x 36 := by kernel_rfl
theorem rot_up8 (x : BitVec 64) : rotF x 45 = upF x 45 := by kernel_rfl
theorem rot_up9 (x : BitVec 64) : rotF x 55 = upF x 55 := by kernel_rfl
theorem rot_up10 (x : BitVec 64) : rotF x 2 = upF x 66 := by kernel_rfl
theorem rot_up11 (x : BitVec 64) : rotF x 14 = upF x 78 := by kernel_rfl
theorem rot_up12 (x : BitVec 64) : rotF x 27 = upF x 91 := by kernel_rfl
theorem rot_up13 (x : BitVec 64) : rotF x 41 = upF x 105 := by kernel_rfl
theorem rot_up14 (x : BitVec 64) : rotF x 56 = upF x 120 := by kernel_rfl
theorem rot_up15 (x : BitVec 64) : rotF x 8 = upF x 136 := by kernel_rfl
theorem rot_up16 (x : BitVec 64) : rotF x 25 = upF x 153 := by kernel_rfl
theorem rot_up17 (x : BitVec 64) : rotF x 43 = upF x 171 := by kernel_rfl
theorem rot_up18 (x : BitVec 64) : rotF x 62 = upF x 190 := by kernel_rfl
theorem rot_up19 (x : BitVec 64) : rotF x 18 = upF x 210 := by kernel_rfl
theorem rot_up20 (x : BitVec 64) : rotF x 39 = upF x 231 := by kernel_rfl
theorem rot_up21 (x : BitVec 64) : rotF x 61 = upF x 253 := by kernel_rfl
theorem rot_up22 (x : BitVec 64) : rotF x 20 = upF x 276 := by kernel_rfl
theorem rot_up23 (x : BitVec 64) : rotF x 44 = upF x 300 := by kernel_rfl
theorem pK_ex (s0 s1 s2 s3 s4 s5 s6 s7 s8 s9 s10 s11 s12 s13 s14 s15 s16 s17 s18 s19 s20 s21 s22 s23 s24 : BitVec 64) (c0 c1 c2 c3 c4 : BitVec 64) : pK 5 ([s0, s1, s2, s3, s4, s5, s6, s7, s8, s9, s10, s11, s12, s13, s14, s15, s16, s17, s18, s19, s20, s21, s22, s23, s24], [c0, c1, c2, c3, c4]) = ([s0 ^^^ (~~~ s1 &&& s2), s1 ^^^ (~~~ s2 &&& s3), s2 ^^^ (~~~ s3 &&& s4), s3 ^^^ (~~~ s4 &&& s0), s4 ^^^ (~~~ s0 &&& s1), s5 ^^^ (~~~ s6 &&& s7), s6 ^^^ (~~~ s7 &&& s8), s7 ^^^ (~~~ s8 &&& s9), s8 ^^^ (~~~ s9 &&& s5), s9 ^^^ (~~~ s5 &&& s6), s10 ^^^ (~~~ s11 &&& s12), s11 ^^^ (~~~ s12 &&& s13), s12 ^^^ (~~~ s13 &&& s14), s13 ^^^ (~~~ s14 &&& s10), s14 ^^^ (~~~ s10 &&& s11), s15 ^^^ (~~~ s16 &&& s17), s16 ^^^ (~~~ s17 &&& s18), s17 ^^^ (~~~ s18 &&& s19), s18 ^^^ (~~~ s19 &&& s15), s19 ^^^ (~~~ s15 &&& s16), s20 ^^^ (~~~ s21 &&& s22), s21 ^^^ (~~~ s22 &&& s23), s22 ^^^ (~~~ s23 &&& s24), s23 ^^^ (~~~ s24 &&& s20), s24 ^^^ (~~~ s20 &&& s21)], [s20, s21, s22, s23, s24]) := by kernel_rfl
theorem rK_ex (s0 s1 s2 s3 s4 s5 s6 s7 s8 s9 s10 s11 s12 s13 s14 s15 s16 s17 s18 s19 s20 s21 s22 s23 s24 : BitVec 64) (a0 a1 a2 a3 a4 a5 a6 a7 a8 a9 a10 a11 a12 a13 a14 a15 a16 a17 a18 a19 a20 a21 a22 a23 a24 : BitVec 64) : rK [s0, s5, s10, s15, s20, s1, s6, s11, s16, s21, s2, s7, s12, s17, s22, s3, s8, s13, s18, s23, s4, s9, s14, s19, s24] 5 [a0, a1, a2, a3, a4, a5, a6, a7, a8, a9, a10, a11, a12, a13, a14, a15, a16, a17, a18, a19, a20, a21, a22, a23, a24] = [s0 ^^^ (~~~ s1 &&& s2), s5 ^^^ (~~~ s6 &&& s7), s10 ^^^ (~~~ s11 &&& s12), s15 ^^^ (~~~ s16 &&& s17), s20 ^^^ (~~~ s21 &&& s22), s1 ^^^ (~~~ s2 &&& s3), s6 ^^^ (~~~ s7 &&& s8), s11 ^^^ (~~~ s12 &&& s13), s16 ^^^ (~~~ s17 &&& s18), s21 ^^^ (~~~ s22 &&& s23), s2 ^^^ (~~~ s3 &&& s4), s7 ^^^ (~~~ s8 &&& s9), s12 ^^^ (~~~ s13 &&& s14), s17 ^^^ (~~~ s18 &&& s19), s22 ^^^ (~~~ s23 &&& s24), s3 ^^^ (~~~ s4 &&& s0), s8 ^^^ (~~~ s9 &&& s5), s13 ^^^ (~~~ s14 &&& s10), s18 ^^^ (~~~ s19 &&& s15), s23 ^^^ (~~~ s24 &&& s20), s4 ^^^ (~~~ s0 &&& s1), s9 ^^^ (~~~ s5 &&& s6), s14 ^^^ (~~~ s10 &&& s11), s19 ^^^ (~~~ s15 &&& s16), s24 ^^^ (~~~ s20 &&& s21)] := by kernel_rfl

theorem theta_eq (s c : List (BitVec 64)) (hs : s.length = 25) (hc : c.length = 5) : rTheta (tr s) = tr (pT (pC s 5 c) 5 s) := by
  obtain ⟨s0, s1, s2, s3, s4, s5, s6, s7, s8, s9, s10, s11, s12, s13, s14, s15, s16, s17, s18, s19, s20, s21, s22, s23, s24, rfl⟩ := len25 s hs
  obtain ⟨c0, c1, c2, c3, c4, rfl⟩ := len5 c hc
  unfold rTheta
  rw [tr_ex, rC_ex, pC_ex, BitVec.zero_xor, BitVec.zero_xor, BitVec.zero_xor, BitVec.zero_xor, BitVec.zero_xor]
  generalize s0 ^^^ s5 ^^^ s10 ^^^ s15 ^^^ s20 = d0
  generalize s1 ^^^ s6 ^^^ s11 ^^^ s16 ^^^ s21 = d1
  generalize s2 ^^^ s7 ^^^ s12 ^^^ s17 ^^^ s22 = d2
  generalize s3 ^^^ s8 ^^^ s13 ^^^ s18 ^^^ s23 = d3
  generalize s4 ^^^ s9 ^^^ s14 ^^^ s19 ^^^ s24 = d4
  rw [rT_ex, pT_ex, tr_ex]
  simp only [rot_up0, BitVec.xor_assoc]
theorem rho_eq (s : List (BitVec 64)) (hs : s.length = 25) : rRho (tr s) = tr ((pR s 24).1) := by
  obtain ⟨s0, s1, s2, s3, s4, s5, s6, s7, s8, s9, s10, s11, s12, s13, s14, s15, s16, s17, s18, s19, s20, s21, s22, s23, s24, rfl⟩ := len25 s hs
  rw [pR_ex, tr_ex, rRho_ex, tr_ex]
  simp only [rot_up0, rot_up1, rot_up2, rot_up3, rot_up4, rot_up5, rot_up6, rot_up7, rot_up8, rot_up9, rot_up10, rot_up11, rot_up12, rot_up13, rot_up14, rot_up15, rot_up16, rot_up17, rot_up18, rot_up19, rot_up20, rot_up21, rot_up22, rot_up23]
theorem chi_eq (s c a : List (BitVec 64)) (hs : s.length = 25) (hc : c.length = 5) (ha : a.length = 25) : rK (tr s) 5 a = tr (pK 5 (s, c)).1 := by
  obtain ⟨s0, s1, s2, s3, s4, s5, s6, s7, s8, s9, s10, s11, s12, s13, s14, s15, s16, s17, s18, s19, s20, s21, s22, s23, s24, rfl⟩ := len25 s hs
  obtain ⟨c0, c1, c2, c3, c4, rfl⟩ := len5 c hc
  obtain ⟨a0, a1, a2, a3, a4, a5, a6, a7, a8, a9, a10, a11, a12, a13, a14, a15, a16, a17, a18, a19, a20, a21, a22, a23, a24, rfl⟩ := len25 a ha
  rw [tr_ex, rK_ex, pK_ex]
  dsimp only
  rw [tr_ex]
theorem K24_eq : K24 = constB := by decide +kernel
theorem tr_set0 (s : List (BitVec 64)) (hs : s.length = 25) (v : BitVec 64) : tr (s.set 0 v) = (tr s).set 0 v := by
  obtain ⟨s0, s1, s2, s3, s4, s5, s6, s7, s8, s9, s10, s11, s12, s13, s14, s15, s16, s17, s18, s19, s20, s21, s22, s23, s24, rfl⟩ := len25 s hs
  rw [List.set_cons_zero, tr_ex, tr_ex, List.set_cons_zero]
theorem tr_get0 (s : List (BitVec 64)) : (tr s).getD 0 0 = s.getD 0 0 := rfl
theorem pC_len5 (s c : List (BitVec 64)) (k : Nat) (hc : c.length = 5) : (pC s k c).length = 5 := by rw [pC_len, hc]
theorem pK_len5 (s c : List (BitVec 64)) (hs : s.length = 25) (hc : c.length = 5) : (pK 5 (s, c)).2.length = 5 := by
  obtain ⟨s0, s1, s2, s3, s4, s5, s6, s7, s8, s9, s10, s11, s12, s13, s14, s15, s16, s17, s18, s19, s20, s21, s22, s23, s24, rfl⟩ := len25 s hs
  obtain ⟨c0, c1, c2, c3, c4, rfl⟩ := len5 c hc
  rw [pK_ex]
  rfl
theorem pRound_ex (i : Nat) (s c : List (BitVec 64)) : pRound i (s, c) = ((pK 5 ((pR (pT (pC s 5 c) 5 s) 24).1, pC s 5 c)).1.set 0 ((pK 5 ((pR (pT (pC s 5 c) 5 s) 24).1, pC s 5 c)).1.getD 0 0 ^^^ constB.getD i 0), (pK 5 ((pR (pT (pC s 5 c) 5 s) 24).1, pC s 5 c)).2) := rfl
theorem round_eq (i : Nat) (s c : List (BitVec 64)) (hs : s.length = 25) (hc : c.length = 5) : rStep i (tr s) = tr (pRound i (s, c)).1 := by
  have h1 : (pT (pC s 5 c) 5 s).length = 25 := by rw [pT_len, hs]
  have h2 : (pR (pT (pC s 5 c) 5 s) 24).1.length = 25 := by rw [pR_len, h1]
  have h3 : (pK 5 ((pR (pT (pC s 5 c) 5 s) 24).1, pC s 5 c)).1.length = 25 := by rw [pK_len, h2]
  have e : rRound (tr s) = tr (pK 5 ((pR (pT (pC s 5 c) 5 s) 24).1, pC s 5 c)).1 := by
    unfold rRound
    rw [theta_eq s c hs hc, rho_eq _ h1, chi_eq _ (pC s 5 c) _ h2 (pC_len5 s c 5 hc) (tr_len _)]
  unfold rStep
  rw [e, tr_get0, K24_eq, ← tr_set0 _ h3, pRound_ex]
theorem round_len2 (i : Nat) (s c : List (BitVec 64)) (hs : s.length = 25) (hc : c.length = 5) : (pRound i (s, c)).2.length = 5 := by
  have h1 : (pT (pC s 5 c) 5 s).length = 25 := by rw [pT_len, hs]
  have h2 : (pR (pT (pC s 5 c) 5 s) 24).1.length = 25 := by rw [pR_len, h1]
  have h3 := pK_len5 (pR (pT (pC s 5 c) 5 s) 24).1 (pC s 5 c) h2 (pC_len5 s c 5 hc)
  rw [pRound_ex]
  dsimp only
  exact h3
theorem rounds_eq (s : List (BitVec 64)) (hs : s.length = 25) (k : Nat) : itN rStep k (tr s) = tr (itN pRound k (s, zeros 64 5)).1 ∧ (itN pRound k (s, zeros 64 5)).1.length = 25 ∧ (itN pRound k (s, zeros 64 5)).2.length = 5 := by
  induction k with
  | zero => exact ⟨rfl, hs, rfl⟩
  | succ k ih =>
    obtain ⟨h1, h2, h3⟩ := ih
    rw [itN_succ, itN_succ, h1]
    generalize itN pRound k (s, zeros 64 5) = p at h2 h3 ⊢
    obtain ⟨a, c⟩ := p
    exact ⟨round_eq k a c h2 h3, by rw [pRound_len]; exact h2, round_len2 k a c h2 h3⟩
theorem rIn_eq (s : List (BitVec 64)) (hs : s.length = 25) : rIn s 25 = tr s := by
  obtain ⟨s0, s1, s2, s3, s4, s5, s6, s7, s8, s9, s10, s11, s12, s13, s14, s15, s16, s17, s18, s19, s20, s21, s22, s23, s24, rfl⟩ := len25 s hs
  kernel_rfl
theorem rOut_eq (s a : List (BitVec 64)) (hs : s.length = 25) (ha : a.length = 25) : rOut (tr s) 25 a = s := by
  obtain ⟨s0, s1, s2, s3, s4, s5, s6, s7, s8, s9, s10, s11, s12, s13, s14, s15, s16, s17, s18, s19, s20, s21, s22, s23, s24, rfl⟩ := len25 s hs
  obtain ⟨a0, a1, a2, a3, a4, a5, a6, a7, a8, a9, a10, a11, a12, a13, a14, a15, a16, a17, a18, a19, a20, a21, a22, a23, a24, rfl⟩ := len25 a ha
  kernel_rfl
/-- the permutation is the document's -/
theorem perm_eq (s : List (BitVec 64)) (hs : s.length = 25) : refPerm s = permF s := by
  obtain ⟨h1, h2, h3⟩ := rounds_eq s hs 24
  unfold refPerm
  rw [rIn_eq s hs, h1, rOut_eq _ _ h2 hs]
  rfl
end Go.Vm.C03

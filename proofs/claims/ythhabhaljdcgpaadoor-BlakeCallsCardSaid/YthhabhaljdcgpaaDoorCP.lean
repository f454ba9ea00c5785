/- What some functions of the program compute, walked through once. -/
import Derived.Test.YthhabhaljdcgpaaDoorCG
namespace Go.Vm.C06
open Go Go.Proofs
set_option linter.unusedVariables false
set_option linter.unusedSimpArgs false
set_option maxRecDepth 100000
set_option maxHeartbeats 8000000

/-! ### the two are one -/
theorem frac_eq : ∀ i, i < 8 → fracF (P8.getD i 0) 2 64 = begunB.getD i 0 := by decide +kernel
theorem places_eq : ∀ j, j < 10 → subL rowsB (j * 16) 16 = rowNums.getD j [] := by decide +kernel
theorem placesB_eq (i : Nat) : placesB i = rowTo i 16 := by
  rw [rowTo_eq, ← places_eq (i % 10) (by omega)]
  have : ((i : Int) % 10).toNat = i % 10 := by omega
  rw [placesB, this]

theorem list8 {α : Type} {l : List α} (h : l.length = 8) : ∃ a b c d e f g i, l = [a, b, c, d, e, f, g, i] := by
  match l, h with
  | [a, b, c, d, e, f, g, i], _ => exact ⟨a, b, c, d, e, f, g, i, rfl⟩
theorem list16 {α : Type} {l : List α} (h : l.length = 16) : ∃ a b c d e f g i j k m n o p q r, l = [a, b, c, d, e, f, g, i, j, k, m, n, o, p, q, r] := by
  match l, h with
  | [a, b, c, d, e, f, g, i, j, k, m, n, o, p, q, r], _ => exact ⟨a, b, c, d, e, f, g, i, j, k, m, n, o, p, q, r, rfl⟩

theorem begin_eq {h : List (BitVec 64)} (hh : h.length = 8) : blakeBegin h = refBegin h 8 := by
  have : refBegin h 8 = itN (fun i v => (v.set i (h.getD i 0)).set (8 + (i : Int)).toNat (begunB.getD i 0)) 8 (zeros 64 16) :=
    itN_congr 8 (fun i s hi => by rw [frac_eq i hi])
  rw [this]
  obtain ⟨a, b, c, d, e, f, g, i, rfl⟩ := list8 hh
  rfl

theorem getD_set_ne {α : Type} {l : List α} {i j : Nat} {a d : α} (h : i ≠ j) : (l.set i a).getD j d = l.getD j d := by
  simp [List.getD_eq_getElem?_getD, List.getElem?_set, h]
theorem tied_eq (v t : List (BitVec 64)) : blakeTied v t = refTied v t := by
  unfold blakeTied refTied
  rw [getD_set_ne (by decide)]

theorem rot32 (x : BitVec 64) : rotF x (-32) = downF x 32 := by
  have e1 : BitVec.ofInt 64 (-32) &&& 63#64 = 32#64 := by decide
  simp only [rotF, downF, e1]
  rw [BitVec.or_comm]; rfl
theorem rot24 (x : BitVec 64) : rotF x (-24) = downF x 24 := by
  have e1 : BitVec.ofInt 64 (-24) &&& 63#64 = 40#64 := by decide
  simp only [rotF, downF, e1]
  rw [BitVec.or_comm]; rfl
theorem rot16 (x : BitVec 64) : rotF x (-16) = downF x 16 := by
  have e1 : BitVec.ofInt 64 (-16) &&& 63#64 = 48#64 := by decide
  simp only [rotF, downF, e1]
  rw [BitVec.or_comm]; rfl
theorem rot63 (x : BitVec 64) : rotF x (-63) = downF x 63 := by
  have e1 : BitVec.ofInt 64 (-63) &&& 63#64 = 1#64 := by decide
  simp only [rotF, downF, e1]
  rw [BitVec.or_comm]; rfl

theorem getD_set_self {α : Type} {l : List α} {i : Nat} {a d : α} (h : i < l.length) : (l.set i a).getD i d = a := by
  simp [List.getD_eq_getElem?_getD, List.getElem?_set, h]

theorem mix_eq {v : List (BitVec 64)} {p q r s : Nat} (x y : BitVec 64) (hp : p < v.length) (hq : q < v.length) (hr : r < v.length) (hs : s < v.length) (pq : p ≠ q) (pr : p ≠ r) (ps : p ≠ s) (qr : q ≠ r) (qs : q ≠ s) (rs : r ≠ s) :
    mixB v p q r s x y = mixRF v p q r s x y := by
  unfold mixB mixRF
  dsimp only
  have e1 : mA v p q x = v.set p (v.getD p 0 + v.getD q 0 + x) := by unfold mA; rw [BitVec.add_assoc]
  rw [e1]
  generalize v.getD p 0 + v.getD q 0 + x = a
  have e2 : mX (v.set p a) p s 32 = (v.set p a).set s (downF (v.getD s 0 ^^^ a) 32) := by
    unfold mX; rw [rot32, getD_set_self hp, getD_set_ne ps]
  rw [e2]
  generalize downF (v.getD s 0 ^^^ a) 32 = d
  have e3 : mC ((v.set p a).set s d) r s = ((v.set p a).set s d).set r (v.getD r 0 + d) := by
    unfold mC
    rw [getD_set_self (by simpa using hs), getD_set_ne rs.symm, getD_set_ne pr]
  rw [e3]
  generalize v.getD r 0 + d = c
  have e4 : mX (((v.set p a).set s d).set r c) r q 24 = (((v.set p a).set s d).set r c).set q (downF (v.getD q 0 ^^^ c) 24) := by
    unfold mX
    rw [rot24, getD_set_self (by simpa using hr), getD_set_ne qr.symm, getD_set_ne qs.symm, getD_set_ne pq]
  rw [e4]
  generalize downF (v.getD q 0 ^^^ c) 24 = b
  have e5 : mA ((((v.set p a).set s d).set r c).set q b) p q y = ((((v.set p a).set s d).set r c).set q b).set p (a + b + y) := by
    unfold mA
    rw [getD_set_self (i := q) (by simpa using hq), getD_set_ne pq.symm, getD_set_ne pr.symm, getD_set_ne ps.symm, getD_set_self hp, BitVec.add_assoc]
  rw [e5]
  generalize a + b + y = a'
  have e6 : mX (((((v.set p a).set s d).set r c).set q b).set p a') p s 16 = (((((v.set p a).set s d).set r c).set q b).set p a').set s (downF (d ^^^ a') 16) := by
    unfold mX
    rw [rot16, getD_set_self (i := p) (by simpa using hp), getD_set_ne ps, getD_set_ne qs, getD_set_ne rs, getD_set_self (by simpa using hs)]
  rw [e6]
  generalize downF (d ^^^ a') 16 = d'
  have e7 : mC ((((((v.set p a).set s d).set r c).set q b).set p a').set s d') r s = ((((((v.set p a).set s d).set r c).set q b).set p a').set s d').set r (c + d') := by
    unfold mC
    rw [getD_set_self (i := s) (by simpa using hs), getD_set_ne rs.symm, getD_set_ne pr, getD_set_ne qr, getD_set_self (by simpa using hr)]
  rw [e7]
  generalize c + d' = c'
  have e8 : mX (((((((v.set p a).set s d).set r c).set q b).set p a').set s d').set r c') r q 63 = (((((((v.set p a).set s d).set r c).set q b).set p a').set s d').set r c').set q (downF (b ^^^ c') 63) := by
    unfold mX
    rw [rot63, getD_set_self (i := r) (by simpa using hr), getD_set_ne qr.symm, getD_set_ne qs.symm, getD_set_ne pq, getD_set_self (by simpa using hq)]
  rw [e8]
  generalize downF (b ^^^ c') 63 = b'
  apply List.ext_getElem?
  intro i
  simp only [List.getElem?_set, List.length_set]
  by_cases h1 : q = i <;> by_cases h2 : r = i <;> by_cases h3 : s = i <;> by_cases h4 : p = i <;> simp_all

theorem mixRF_len (v : List (BitVec 64)) (p q r s : Nat) (x y : BitVec 64) : (mixRF v p q r s x y).length = v.length := by simp [mixRF]

theorem mixB_len (v : List (BitVec 64)) (p q r s : Nat) (x y : BitVec 64) : (mixB v p q r s x y).length = v.length := by simp [mixB, mA, mX, mC]

attribute [local irreducible] mixRF mixB

theorem q_eq (m : List (BitVec 64)) (S : List Int) {v : List (BitVec 64)} (hv : v.length = 16) : blakeQ m S 8 v = refQ2 m S 4 (refQ1 m S 4 v) := by
  have L : ∀ p q r s x y, (mixRF v p q r s x y).length = 16 := fun p q r s x y => by rw [mixRF_len, hv]
  have key : ∀ (w : List (BitVec 64)) (p q r s : Nat) (x y : BitVec 64), w.length = 16 → p < 16 ∧ q < 16 ∧ r < 16 ∧ s < 16 ∧ p ≠ q ∧ p ≠ r ∧ p ≠ s ∧ q ≠ r ∧ q ≠ s ∧ r ≠ s → mixB w p q r s x y = mixRF w p q r s x y := by
    intro w p q r s x y hw h
    exact mix_eq x y (by omega) (by omega) (by omega) (by omega) h.2.2.2.2.1 h.2.2.2.2.2.1 h.2.2.2.2.2.2.1 h.2.2.2.2.2.2.2.1 h.2.2.2.2.2.2.2.2.1 h.2.2.2.2.2.2.2.2.2
  unfold blakeQ refQ2 refQ1
  simp only [itN]
  rw [key, key, key, key, key, key, key, key]
  · rfl
  all_goals first | decide | simp only [mixRF_len, mixB_len, hv]

theorem refQ_len (m : List (BitVec 64)) (S : List Int) (v : List (BitVec 64)) : (refQ2 m S 4 (refQ1 m S 4 v)).length = v.length := by
  unfold refQ2 refQ1
  simp only [itN, mixRF_len]
theorem rounds_eq (m : List (BitVec 64)) {v : List (BitVec 64)} (hv : v.length = 16) (n : Nat) : itN (blakeRound m) n v = itN (refRound m) n v ∧ (itN (refRound m) n v).length = 16 := by
  induction n with
  | zero => exact ⟨rfl, hv⟩
  | succ n ih =>
    rw [itN_succ, itN_succ, ih.1, blakeRound, refRound, placesB_eq]
    exact ⟨q_eq m _ ih.2, by rw [refQ_len, ih.2]⟩
theorem out_eq (v : List (BitVec 64)) (k : Nat) (h : List (BitVec 64)) : blakeOut v k h = refOut v k h :=
  itN_congr k (fun i s _ => by rw [BitVec.xor_assoc])
theorem refLast_len (v : List (BitVec 64)) (l : Bool) : (refLast v l).length = v.length := by unfold refLast; split <;> simp
theorem refTied_len (v t : List (BitVec 64)) : (refTied v t).length = v.length := by simp [refTied]

theorem F_eq (r : BitVec 32) {h : List (BitVec 64)} (m t : List (BitVec 64)) (last : Bool) (hh : h.length = 8) : blakeF r h m t last = refF r h m t last := by
  unfold blakeF refF
  rw [begin_eq hh, tied_eq, out_eq, (rounds_eq m (by rw [refLast_len, refTied_len, ← begin_eq hh, blakeBegin_len hh]) _).1]
end Go.Vm.C06

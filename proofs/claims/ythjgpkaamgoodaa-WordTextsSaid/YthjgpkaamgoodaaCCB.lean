/- What some functions of the program compute, walked through once. -/
import Derived.Test.YthjgpkaamgoodaaCCA
namespace Go.Vm.C01
open Go Go.Proofs
set_option linter.unusedVariables false
set_option linter.unusedSimpArgs false
set_option maxRecDepth 100000
set_option maxHeartbeats 8000000

noncomputable def lzS : FSpec := { run := fun ins => match ins with
  | [.u 64 x] => some (.i ((64 - bl x.toNat : Nat) : Int), [])
  | _ => none }
theorem lz_sound : SoundFn Try.prog glB 95 lzS.run := by
  have G := good_of (P := Try.prog) glB_ro (l := [(88, lenS)]) (by simp only [List.forall_mem_cons]; exact ⟨len64_sound, by simp⟩)
  refine soundFn_of_W G Try.func95 (by decide) rfl (by decide) ?_
  intro ins ret outs h
  unfold lzS at h
  dsimp only at h
  split at h
  rotate_left
  · cases h
  rename_i x
  cases h
  refine ⟨by show 1 ≤ 6; decide, fun w0 ext av => ?_⟩
  rw [Try.ntmps95, st0_eq]
  have hb := bl_64 x
  have e : ((64 - bl x.toNat : Nat) : Int) = 64 - (bl x.toNat : Int) := by omega
  rw [e]
  repeat' first
    | refine W.seq ?_ | (refine W.regS G ?_; dsimp only) | refine SW.nil ?_ | refine thenQ_normal ?_ | refine W.skip ?_ | refine W.exit ?_ | refine thenQ_exit ?_ | refine inBlockQ_exit ?_ | refine inBlockQ_normal ?_ | refine W.block ?_
    | (apply SW.toC; refine SWcall.go lenS.eq_1 ?_) | (apply SW.toOp; refine SWop.go lenS.eq_1 ?_) | (apply SW.toCG; first | refine SWcall.yes lenS.eq_1 ?_ | refine SWcall.no lenS.eq_1 ?_) | (apply SW.toG; first | refine SWop.yes lenS.eq_1 ?_ | refine SWop.no lenS.eq_1 ?_)
  refine W.ret ?_
  repeat' first
    | refine thenQ_ret ?_
    | refine inBlockQ_ret ?_
  refine fin1Z lenS.eq_1 ?_
  exact leV_refl
theorem dle {x y : BitVec 64} (h : y.toNat ≤ x.toNat) : decide (castB rfl y ≤ x) = true := decide_eq_true h
theorem dnle {x y : BitVec 64} (h : ¬ y.toNat ≤ x.toNat) : decide (castB rfl y ≤ x) = false := decide_eq_false h
theorem dlt {x y : BitVec 64} (h : y.toNat < x.toNat) : decide (castB rfl y < x) = true := decide_eq_true h
theorem dnlt {x y : BitVec 64} (h : ¬ y.toNat < x.toNat) : decide (castB rfl y < x) = false := decide_eq_false h
theorem bv_nat (x : BitVec 64) : BitVec.ofNat 64 x.toNat = x := by rw [BitVec.ofNat_toNat, BitVec.setWidth_eq]
theorem rem_bv {U d V : BitVec 64} {Q R : Nat} (h : U.toNat * P32 + d.toNat = Q * V.toNat + R) : U * 4294967296#64 + d - BitVec.ofNat 64 Q * V = BitVec.ofNat 64 R := by
  have h2 := congrArg (BitVec.ofNat 64) h
  rw [BitVec.ofNat_add, BitVec.ofNat_mul, BitVec.ofNat_add, BitVec.ofNat_mul, bv_nat, bv_nat, bv_nat] at h2
  have h3 : U * 4294967296#64 + d = BitVec.ofNat 64 Q * V + BitVec.ofNat 64 R := h2
  rw [h3, BitVec.add_comm, BitVec.add_sub_cancel]
theorem quo_bv (Q1 Q0 : Nat) : BitVec.ofNat 64 Q1 * 4294967296#64 + BitVec.ofNat 64 Q0 = BitVec.ofNat 64 (Q1 * P32 + Q0) := by
  rw [BitVec.ofNat_add, BitVec.ofNat_mul]
  rfl
theorem shr32 (x : BitVec 64) : (x >>> 32).toNat = x.toNat / P32 := by rw [BitVec.toNat_ushiftRight, Nat.shiftRight_eq_div_pow]; rfl
theorem and32 (x : BitVec 64) : (x &&& 4294967295#64).toNat = x.toNat % P32 := and_mod x 32 (by omega) _ rfl
theorem mod_bv {x y : BitVec 64} (hy : y ≠ 0) : (x - x / y * y).toNat = x.toNat % y.toNat := by
  have hx := x.isLt
  have hp : 0 < y.toNat := Nat.pos_of_ne_zero fun c => hy (BitVec.eq_of_toNat_eq c)
  have h := Nat.div_add_mod' x.toNat y.toNat
  have e : (x / y * y).toNat = x.toNat / y.toNat * y.toNat := by
    rw [BitVec.toNat_mul, BitVec.toNat_udiv]
    exact Nat.mod_eq_of_lt (Nat.lt_of_le_of_lt (Nat.div_mul_le_self _ _) hx)
  rw [BitVec.toNat_sub, e]
  generalize x.toNat / y.toNat * y.toNat = A at *
  generalize x.toNat % y.toNat = B at *
  omega
/-- a round goes on -/
theorem k_bv {q r v1 v0 d U : BitVec 64} (h2 : v1.toNat < P32) (h4 : d.toNat < P32) (h5 : U.toNat < v1.toNat * P32 + v0.toNat) (hk : KI U.toNat v1.toNat v0.toNat d.toNat q.toNat r.toNat) (ht : P32 ≤ q.toNat ∨ P32 * r.toNat + d.toNat < q.toNat * v0.toNat) :
    (q - 1#64).toNat = q.toNat - 1 ∧ (r + v1).toNat = r.toNat + v1.toNat ∧ (U.toNat * P32 + d.toNat) / (v1.toNat * P32 + v0.toNat) ≤ q.toNat - 1 ∧ (q.toNat - 1) * v1.toNat + (r.toNat + v1.toNat) = U.toNat ∧ q.toNat - 1 ≤ P32 ∧ 1 ≤ q.toNat := by
  obtain ⟨g1, g2, g3, g4⟩ := k_next h2 h4 h5 hk ht
  have hq := q.isLt
  have hr := hk.rb
  refine ⟨?_, ?_, g2, g3, g4, g1⟩
  · rw [BitVec.toNat_sub]
    show (2 ^ 64 - 1 + q.toNat) % 2 ^ 64 = _
    omega
  · rw [BitVec.toNat_add]
    unfold P32 at *
    omega
theorem mul_bv {q v : BitVec 64} (h1 : q.toNat < P32) (h2 : v.toNat < P32) : (q * v).toNat = q.toNat * v.toNat := by
  rw [BitVec.toNat_mul]
  refine Nat.mod_eq_of_lt ?_
  have : q.toNat * v.toNat < P32 * P32 := Nat.mul_lt_mul'' h1 h2
  exact this
theorem wide_bv {r d : BitVec 64} (h1 : r.toNat < P32) (h2 : d.toNat < P32) : (4294967296#64 * r + d).toNat = P32 * r.toNat + d.toNat := by
  rw [BitVec.toNat_add, BitVec.toNat_mul]
  show (4294967296 * r.toNat % 2 ^ 64 + d.toNat) % 2 ^ 64 = 4294967296 * r.toNat + d.toNat
  unfold P32 at *
  omega
noncomputable def div64S : FSpec := { run := fun ins => match ins with
  | [.u 64 h, .u 64 x, .u 64 y] => chk (h.toNat < y.toNat) (some (.tup [.u 64 (BitVec.ofNat 64 ((h.toNat * B64 + x.toNat) / y.toNat)), .u 64 (BitVec.ofNat 64 ((h.toNat * B64 + x.toNat) % y.toNat))], []))
  | _ => none }
theorem div64_sound : SoundFn Try.prog glB 93 div64S.run := by
  have G := good_of (P := Try.prog) glB_ro (l := [(95, lzS)]) (by simp only [List.forall_mem_cons]; exact ⟨lz_sound, by simp⟩)
  refine soundFn_of_W G Try.func93 (by decide) rfl (by decide) ?_
  intro ins ret outs h
  unfold div64S at h
  dsimp only at h
  split at h
  rotate_left
  · cases h
  rename_i hh x y
  obtain ⟨hy, h'⟩ := chk_some h
  clear h
  cases h'
  refine ⟨by show 3 ≤ 135; decide, fun w0 ext av => ?_⟩
  rw [Try.ntmps93, st0_eq]
  have hy0 : ¬ y = 0 := fun c => by rw [c] at hy; exact absurd hy (Nat.not_lt_zero _)
  repeat' first
    | refine W.seq ?_ | (refine W.regS G ?_; dsimp only) | refine SW.nil ?_ | refine thenQ_normal ?_ | refine W.skip ?_ | refine W.exit ?_ | refine thenQ_exit ?_ | refine inBlockQ_exit ?_ | refine inBlockQ_normal ?_ | refine W.block ?_
    | (apply SW.toC; refine SWcall.go True.intro ?_) | (apply SW.toOp; refine SWop.go True.intro ?_) | (apply SW.toCG; first | refine SWcall.yes True.intro ?_ | refine SWcall.no True.intro ?_) | (apply SW.toG; first | refine SWop.yes True.intro ?_ | refine SWop.no True.intro ?_)
  refine W.condZ G True.intro ?_ ?_
  all_goals intro h1
  · exact absurd (yes_of h1) hy0
  repeat' first
    | refine W.seq ?_ | (refine W.regS G ?_; dsimp only) | refine SW.nil ?_ | refine thenQ_normal ?_ | refine W.skip ?_ | refine W.exit ?_ | refine thenQ_exit ?_ | refine inBlockQ_exit ?_ | refine inBlockQ_normal ?_ | refine W.block ?_
    | (apply SW.toC; refine SWcall.go True.intro ?_) | (apply SW.toOp; refine SWop.go True.intro ?_) | (apply SW.toCG; first | refine SWcall.yes True.intro ?_ | refine SWcall.no True.intro ?_) | (apply SW.toG; first | refine SWop.yes True.intro ?_ | refine SWop.no True.intro ?_)
  refine W.condZ G True.intro ?_ ?_
  all_goals intro h2
  · exact absurd (yes_of h2) fun (c : y.toNat ≤ hh.toNat) => by omega
  repeat' first
    | refine W.seq ?_ | (refine W.regS G ?_; dsimp only) | refine SW.nil ?_ | refine thenQ_normal ?_ | refine W.skip ?_ | refine W.exit ?_ | refine thenQ_exit ?_ | refine inBlockQ_exit ?_ | refine inBlockQ_normal ?_ | refine W.block ?_
    | (apply SW.toC; refine SWcall.go True.intro ?_) | (apply SW.toOp; refine SWop.go True.intro ?_) | (apply SW.toCG; first | refine SWcall.yes True.intro ?_ | refine SWcall.no True.intro ?_) | (apply SW.toG; first | refine SWop.yes True.intro ?_ | refine SWop.no True.intro ?_)
  refine W.condZ G True.intro ?_ ?_
  all_goals intro h3
  · have h3' : hh = 0#64 := yes_of h3
    have e1 : BitVec.ofNat 64 ((hh.toNat * B64 + x.toNat) / y.toNat) = x / y := by
      rw [h3']
      refine BitVec.eq_of_toNat_eq ?_
      rw [BitVec.toNat_udiv, BitVec.toNat_ofNat, show (0#64).toNat = 0 from rfl, Nat.zero_mul, Nat.zero_add]
      exact Nat.mod_eq_of_lt (Nat.lt_of_le_of_lt (Nat.div_le_self _ _) x.isLt)
    have e2 : BitVec.ofNat 64 ((hh.toNat * B64 + x.toNat) % y.toNat) = x % y := by
      rw [h3']
      refine BitVec.eq_of_toNat_eq ?_
      rw [BitVec.toNat_umod, BitVec.toNat_ofNat, show (0#64).toNat = 0 from rfl, Nat.zero_mul, Nat.zero_add]
      exact Nat.mod_eq_of_lt (Nat.lt_of_le_of_lt (Nat.mod_le _ _) x.isLt)
    rw [e1, e2]
    repeat' first
      | refine W.seq ?_ | (refine W.regS G ?_; dsimp only) | refine SW.nil ?_ | refine thenQ_normal ?_ | refine W.skip ?_ | refine W.exit ?_ | refine thenQ_exit ?_ | refine inBlockQ_exit ?_ | refine inBlockQ_normal ?_
      | (apply SW.toC; refine SWcall.go True.intro ?_) | (apply SW.toOp; refine SWop.go True.intro ?_) | (apply SW.toCG; first | refine SWcall.yes True.intro ?_ | refine SWcall.no True.intro ?_) | (apply SW.toG; first | refine SWop.yes True.intro ?_ | refine SWop.no True.intro ?_)
    refine W.drawS G [[], [], [0, 1], [], [], [3, 4], [2, 0, 1], [5, 3, 4, 6, 2, 0, 1]] hmix ?_
    dsimp only
    repeat' first
      | (apply DW.nil; (focus (decide +kernel)))
      | (apply DW.toC; refine DWcall.go hy0 ?_) | (apply DW.toOp; refine DWop.go hy0 ?_) | (apply DW.toCG; first | refine DWcall.yes hy0 ?_ | refine DWcall.no hy0 ?_) | (apply DW.toG; first | refine DWop.yes hy0 ?_ | refine DWop.no hy0 ?_)
    repeat' first
      | refine W.seq ?_ | (refine W.regS G ?_; dsimp only) | refine SW.nil ?_ | refine thenQ_normal ?_ | refine W.skip ?_ | refine W.exit ?_ | refine thenQ_exit ?_ | refine inBlockQ_exit ?_ | refine inBlockQ_normal ?_ | refine W.block ?_
      | (apply SW.toC; refine SWcall.go True.intro ?_) | (apply SW.toOp; refine SWop.go True.intro ?_) | (apply SW.toCG; first | refine SWcall.yes True.intro ?_ | refine SWcall.no True.intro ?_) | (apply SW.toG; first | refine SWop.yes True.intro ?_ | refine SWop.no True.intro ?_)
    refine W.ret ?_
    repeat' first
      | refine thenQ_ret ?_
      | refine inBlockQ_ret ?_
    refine fin2Z True.intro ?_ ?_
    · exact leV_refl
    · exact leV_refl
  have hyL := y.isLt
  have hxL := x.isLt
  obtain ⟨s, hs, hbl, hs63, n1, n2, n3, n4⟩ := norm_ok hy y.isLt x.isLt
  have e3 : (BitVec.ofInt 64 (s : Int)).toNat = s := by rw [BitVec.toNat_ofInt]; omega
  have e4 : (64#64 - BitVec.ofInt 64 (s : Int)).toNat = 64 - s := by
    rw [BitVec.toNat_sub, e3]
    show (2 ^ 64 - s + 64) % 2 ^ 64 = _
    omega
  obtain ⟨sB, hsB⟩ : ∃ sB, BitVec.ofInt 64 (s : Int) = sB := ⟨_, rfl⟩
  rw [hsB] at e3 e4
  obtain ⟨Y, hV⟩ : ∃ Y, y <<< s = Y := ⟨_, rfl⟩
  obtain ⟨U, hU⟩ : ∃ U, hh <<< s ||| x >>> (64 - s) = U := ⟨_, rfl⟩
  obtain ⟨L, hL⟩ : ∃ L, x <<< s = L := ⟨_, rfl⟩
  have vV : Y.toNat = y.toNat * 2 ^ s := by
    rw [← hV, BitVec.toNat_shiftLeft, Nat.shiftLeft_eq]
    exact Nat.mod_eq_of_lt n2
  have vL : L.toNat = x.toNat * 2 ^ s % 18446744073709551616 := by rw [← hL, BitVec.toNat_shiftLeft, Nat.shiftLeft_eq]
  have vU : U.toNat = hh.toNat * 2 ^ s + x.toNat / 2 ^ (64 - s) := by
    have hx2 : x.toNat / 2 ^ (64 - s) < 2 ^ s := by
      rw [Nat.div_lt_iff_lt_mul (Nat.two_pow_pos _), ← Nat.pow_add, show s + (64 - s) = 64 from by omega]
      exact hxL
    have hh2 : hh.toNat * 2 ^ s < 18446744073709551616 := Nat.lt_of_le_of_lt (Nat.le_add_right _ _) (Nat.lt_trans n3 n2)
    rw [← hU, BitVec.toNat_or, BitVec.toNat_shiftLeft, BitVec.toNat_ushiftRight, Nat.shiftRight_eq_div_pow, Nat.shiftLeft_eq, Nat.mod_eq_of_lt hh2, ← Nat.shiftLeft_eq, ← Nat.shiftLeft_add_eq_or_of_lt hx2]
  obtain ⟨v1, hv1⟩ : ∃ v, Y >>> 32 = v := ⟨_, rfl⟩
  obtain ⟨v0, hv0⟩ : ∃ v, Y &&& 4294967295#64 = v := ⟨_, rfl⟩
  obtain ⟨d1, hd1⟩ : ∃ v, L >>> 32 = v := ⟨_, rfl⟩
  obtain ⟨d0, hd0⟩ : ∃ v, L &&& 4294967295#64 = v := ⟨_, rfl⟩
  have w1 : v1.toNat = Y.toNat / P32 := by rw [← hv1, shr32]
  have w0 : v0.toNat = Y.toNat % P32 := by rw [← hv0, and32]
  have w3 : d1.toNat = L.toNat / P32 := by rw [← hd1, shr32]
  have w2 : d0.toNat = L.toNat % P32 := by rw [← hd0, and32]
  rw [← vV] at n1 n2 n3
  rw [← vU] at n3
  rw [← vU, ← vL] at n4
  have hVV : v1.toNat * P32 + v0.toNat = Y.toNat := by rw [w1, w0]; exact Nat.div_add_mod' _ _
  have b1 : 2147483648 ≤ v1.toNat := by rw [w1]; unfold P32; omega
  have b2 : v1.toNat < P32 := by rw [w1]; unfold P32; omega
  have b3 : v0.toNat < P32 := by rw [w0]; exact Nat.mod_lt _ (by decide)
  have b4 : d1.toNat < P32 := by
    have := L.isLt
    rw [w3]; unfold P32; omega
  have b5 : d0.toNat < P32 := by rw [w2]; exact Nat.mod_lt _ (by decide)
  have hv10 : ¬ v1 = 0 := fun c => by rw [c] at b1; exact absurd b1 (by decide)
  have hN := k_two (V := Y.toNat) (N := (hh.toNat * B64 + x.toNat) * 2 ^ s) (u := U.toNat) (d1 := d1.toNat) (d0 := d0.toNat) (by omega) (by
    show (hh.toNat * 18446744073709551616 + x.toNat) * 2 ^ s = _
    rw [← n4, w3, w2]
    unfold P32
    omega)
  rw [← hVV] at n3
  have hm := mod_bv (x := U) hv10
  obtain ⟨q, hq⟩ : ∃ q, U / v1 = q := ⟨_, rfl⟩
  obtain ⟨r, hr⟩ : ∃ r, U - q * v1 = r := ⟨_, rfl⟩
  have hk : KI U.toNat v1.toNat v0.toNat d1.toNat q.toNat r.toNat := by
    have := k_init b1 b2 b3 b4 n3
    rw [← hr, ← hq, BitVec.toNat_udiv]
    rw [hm]
    exact this
  have hU64 := U.isLt
  have hs2 : 64 - bl y.toNat = s := hs.symm
  repeat' first
    | refine W.seq ?_ | (refine W.regS G ?_; dsimp only) | refine SW.nil ?_ | refine thenQ_normal ?_ | refine W.skip ?_ | refine W.exit ?_ | refine thenQ_exit ?_ | refine inBlockQ_exit ?_ | refine inBlockQ_normal ?_
    | (apply SW.toC; refine SWcall.go (And.intro lzS.eq_1 (And.intro hs2 (And.intro e3 (And.intro e4 (And.intro hsB (And.intro hV (And.intro hU (And.intro hL (And.intro hv1 (And.intro hv0 (And.intro hd1 (And.intro hd0 (And.intro hv10 (And.intro hq hr)))))))))))))) ?_) | (apply SW.toOp; refine SWop.go (And.intro lzS.eq_1 (And.intro hs2 (And.intro e3 (And.intro e4 (And.intro hsB (And.intro hV (And.intro hU (And.intro hL (And.intro hv1 (And.intro hv0 (And.intro hd1 (And.intro hd0 (And.intro hv10 (And.intro hq hr)))))))))))))) ?_) | (apply SW.toCG; first | refine SWcall.yes (And.intro lzS.eq_1 (And.intro hs2 (And.intro e3 (And.intro e4 (And.intro hsB (And.intro hV (And.intro hU (And.intro hL (And.intro hv1 (And.intro hv0 (And.intro hd1 (And.intro hd0 (And.intro hv10 (And.intro hq hr)))))))))))))) ?_ | refine SWcall.no (And.intro lzS.eq_1 (And.intro hs2 (And.intro e3 (And.intro e4 (And.intro hsB (And.intro hV (And.intro hU (And.intro hL (And.intro hv1 (And.intro hv0 (And.intro hd1 (And.intro hd0 (And.intro hv10 (And.intro hq hr)))))))))))))) ?_) | (apply SW.toG; first | refine SWop.yes (And.intro lzS.eq_1 (And.intro hs2 (And.intro e3 (And.intro e4 (And.intro hsB (And.intro hV (And.intro hU (And.intro hL (And.intro hv1 (And.intro hv0 (And.intro hd1 (And.intro hd0 (And.intro hv10 (And.intro hq hr)))))))))))))) ?_ | refine SWop.no (And.intro lzS.eq_1 (And.intro hs2 (And.intro e3 (And.intro e4 (And.intro hsB (And.intro hV (And.intro hU (And.intro hL (And.intro hv1 (And.intro hv0 (And.intro hd1 (And.intro hd0 (And.intro hv10 (And.intro hq hr)))))))))))))) ?_)
  refine W.mid (sL [(2, .u 64 Y), (8, .u 64 sB), (9, .u 64 v1), (10, .u 64 v0), (11, .u 64 U), (13, .u 64 d1), (14, .u 64 d0), (15, .u 64 (BitVec.ofNat 64 ((U.toNat * P32 + d1.toNat) / (v1.toNat * P32 + v0.toNat))))] [] 135) ?_ ?_
  · refine W.block ?_
    refine W.loopI (ι := {p : BitVec 64 × BitVec 64 // KI U.toNat v1.toNat v0.toNat d1.toNat p.1.toNat p.2.toNat}) (fun p => sL [(2, .u 64 Y), (8, .u 64 sB), (9, .u 64 v1), (10, .u 64 v0), (11, .u 64 U), (13, .u 64 d1), (14, .u 64 d0), (15, .u 64 p.1.1), (16, .u 64 p.1.2)] [] 135) (fun p => p.1.1.toNat) ⟨(q, r), hk⟩ (Imp.le ?_) ?_
    · exact sL_leZ (And.intro lzS.eq_1 (And.intro hs2 (And.intro e3 (And.intro e4 (And.intro hsB (And.intro hV (And.intro hU (And.intro hL (And.intro hv1 (And.intro hv0 (And.intro hd1 (And.intro hd0 (And.intro hv10 (And.intro hq hr))))))))))))))
    clear hq hr hk
    clear q r
    rintro ⟨⟨q, r⟩, hk⟩
    dsimp only at hk ⊢
    refine W.seq ?_
    refine W.midI (ι := {u : Unit // P32 ≤ q.toNat ∨ P32 * r.toNat + d1.toNat < q.toNat * v0.toNat}) (fun _ => sL [(2, .u 64 Y), (8, .u 64 sB), (9, .u 64 v1), (10, .u 64 v0), (11, .u 64 U), (13, .u 64 d1), (14, .u 64 d0), (15, .u 64 q), (16, .u 64 r)] [] 135) ?_ ?_
    · by_cases c1 : P32 ≤ q.toNat
      · have g1 := dle (x := q) (y := 4294967296#64) c1
        simp only [castB_rfl] at g1
        repeat' first
          | refine W.seq ?_ | (refine W.regS G ?_; dsimp only) | refine SW.nil ?_ | refine thenQ_normal ?_ | refine W.skip ?_ | refine W.exit ?_ | refine thenQ_exit ?_ | refine inBlockQ_exit ?_ | refine inBlockQ_normal ?_ | refine W.block ?_
          | (apply SW.toC; refine SWcall.go g1 ?_) | (apply SW.toOp; refine SWop.go g1 ?_) | (apply SW.toCG; first | refine SWcall.yes g1 ?_ | refine SWcall.no g1 ?_) | (apply SW.toG; first | refine SWop.yes g1 ?_ | refine SWop.no g1 ?_)
        refine W.condZ G g1 ?_ ?_
        all_goals intro hc
        · repeat' first
            | refine W.seq ?_ | (refine W.regS G ?_; dsimp only) | refine SW.nil ?_ | refine thenQ_normal ?_ | refine W.skip ?_ | refine W.exit ?_ | refine thenQ_exit ?_ | refine inBlockQ_exit ?_ | refine inBlockQ_normal ?_ | refine W.block ?_
            | (apply SW.toC; refine SWcall.go g1 ?_) | (apply SW.toOp; refine SWop.go g1 ?_) | (apply SW.toCG; first | refine SWcall.yes g1 ?_ | refine SWcall.no g1 ?_) | (apply SW.toG; first | refine SWop.yes g1 ?_ | refine SWop.no g1 ?_)
          refine ⟨⟨(), .inl c1⟩, Imp.le ?_⟩
          exact sL_leZ g1
        · exact absurd hc (by decide)
      · have g1 := dnle (x := q) (y := 4294967296#64) c1
        simp only [castB_rfl] at g1
        have eq1 := mul_bv (q := q) (by omega) b3
        have eq2 := wide_bv hk.rb b4
        by_cases c2 : P32 * r.toNat + d1.toNat < q.toNat * v0.toNat
        · have g2 := dlt (x := q * v0) (y := 4294967296#64 * r + d1) (by rw [eq1, eq2]; exact c2)
          simp only [castB_rfl] at g2
          repeat' first
            | refine W.seq ?_ | (refine W.regS G ?_; dsimp only) | refine SW.nil ?_ | refine thenQ_normal ?_ | refine W.skip ?_ | refine W.exit ?_ | refine thenQ_exit ?_ | refine inBlockQ_exit ?_ | refine inBlockQ_normal ?_ | refine W.block ?_
            | (apply SW.toC; refine SWcall.go (And.intro g1 g2) ?_) | (apply SW.toOp; refine SWop.go (And.intro g1 g2) ?_) | (apply SW.toCG; first | refine SWcall.yes (And.intro g1 g2) ?_ | refine SWcall.no (And.intro g1 g2) ?_) | (apply SW.toG; first | refine SWop.yes (And.intro g1 g2) ?_ | refine SWop.no (And.intro g1 g2) ?_)
          refine W.condZ G (And.intro g1 g2) ?_ ?_
          all_goals intro hc
          · repeat' first
              | refine W.seq ?_ | (refine W.regS G ?_; dsimp only) | refine SW.nil ?_ | refine thenQ_normal ?_ | refine W.skip ?_ | refine W.exit ?_ | refine thenQ_exit ?_ | refine inBlockQ_exit ?_ | refine inBlockQ_normal ?_ | refine W.block ?_
              | (apply SW.toC; refine SWcall.go (And.intro g1 g2) ?_) | (apply SW.toOp; refine SWop.go (And.intro g1 g2) ?_) | (apply SW.toCG; first | refine SWcall.yes (And.intro g1 g2) ?_ | refine SWcall.no (And.intro g1 g2) ?_) | (apply SW.toG; first | refine SWop.yes (And.intro g1 g2) ?_ | refine SWop.no (And.intro g1 g2) ?_)
            refine ⟨⟨(), .inr c2⟩, Imp.le ?_⟩
            exact sL_leZ (And.intro g1 g2)
          · exact absurd hc (by decide)
        · have g2 := dnlt (x := q * v0) (y := 4294967296#64 * r + d1) (by rw [eq1, eq2]; exact c2)
          simp only [castB_rfl] at g2
          repeat' first
            | refine W.seq ?_ | (refine W.regS G ?_; dsimp only) | refine SW.nil ?_ | refine thenQ_normal ?_ | refine W.skip ?_ | refine W.exit ?_ | refine thenQ_exit ?_ | refine inBlockQ_exit ?_ | refine inBlockQ_normal ?_ | refine W.block ?_
            | (apply SW.toC; refine SWcall.go (And.intro g1 g2) ?_) | (apply SW.toOp; refine SWop.go (And.intro g1 g2) ?_) | (apply SW.toCG; first | refine SWcall.yes (And.intro g1 g2) ?_ | refine SWcall.no (And.intro g1 g2) ?_) | (apply SW.toG; first | refine SWop.yes (And.intro g1 g2) ?_ | refine SWop.no (And.intro g1 g2) ?_)
          refine W.condZ G (And.intro g1 g2) ?_ ?_
          all_goals intro hc
          · exact absurd hc (by decide)
          · have hQ := k_done1 (by omega) hk (Nat.le_of_not_lt c2)
            have hB : BitVec.ofNat 64 ((U.toNat * P32 + d1.toNat) / (v1.toNat * P32 + v0.toNat)) = q := by rw [hQ, bv_nat]
            repeat' first
              | refine W.seq ?_ | (refine W.regS G ?_; dsimp only) | refine SW.nil ?_ | refine thenQ_normal ?_ | refine W.skip ?_ | refine W.exit ?_ | refine thenQ_exit ?_ | refine inBlockQ_exit ?_ | refine inBlockQ_normal ?_ | refine W.block ?_
              | (apply SW.toC; refine SWcall.go (And.intro g1 g2) ?_) | (apply SW.toOp; refine SWop.go (And.intro g1 g2) ?_) | (apply SW.toCG; first | refine SWcall.yes (And.intro g1 g2) ?_ | refine SWcall.no (And.intro g1 g2) ?_) | (apply SW.toG; first | refine SWop.yes (And.intro g1 g2) ?_ | refine SWop.no (And.intro g1 g2) ?_)
            refine Imp.le ?_
            exact sL_leZ (And.intro hB (And.intro g1 g2))
    rintro ⟨_, ht⟩
    obtain ⟨f1, f2, f3, f4, f5, f6⟩ := k_bv b2 b4 n3 hk ht
    have b2' := b2
    have hrb := hk.rb
    repeat' first
      | refine W.seq ?_ | (refine W.regS G ?_; dsimp only) | refine SW.nil ?_ | refine thenQ_normal ?_ | refine W.skip ?_ | refine W.exit ?_ | refine thenQ_exit ?_ | refine inBlockQ_exit ?_ | refine inBlockQ_normal ?_ | refine W.block ?_
      | (apply SW.toC; refine SWcall.go True.intro ?_) | (apply SW.toOp; refine SWop.go True.intro ?_) | (apply SW.toCG; first | refine SWcall.yes True.intro ?_ | refine SWcall.no True.intro ?_) | (apply SW.toG; first | refine SWop.yes True.intro ?_ | refine SWop.no True.intro ?_)
    refine W.condZ G True.intro ?_ ?_
    all_goals intro hc
    · have hc' : P32 ≤ (r + v1).toNat := yes_of hc
      rw [f2] at hc'
      have hQ := k_done2 (by omega) b3 f4 f3 f5 hc'
      have hB : BitVec.ofNat 64 ((U.toNat * P32 + d1.toNat) / (v1.toNat * P32 + v0.toNat)) = q - 1#64 := by rw [hQ, ← f1, bv_nat]
      repeat' first
        | refine W.seq ?_ | (refine W.regS G ?_; dsimp only) | refine SW.nil ?_ | refine thenQ_normal ?_ | refine W.skip ?_ | refine W.exit ?_ | refine thenQ_exit ?_ | refine inBlockQ_exit ?_ | refine inBlockQ_normal ?_ | refine W.block ?_
        | (apply SW.toC; refine SWcall.go True.intro ?_) | (apply SW.toOp; refine SWop.go True.intro ?_) | (apply SW.toCG; first | refine SWcall.yes True.intro ?_ | refine SWcall.no True.intro ?_) | (apply SW.toG; first | refine SWop.yes True.intro ?_ | refine SWop.no True.intro ?_)
      refine Imp.le ?_
      exact sL_leZ hB
    · have hc' : ¬ P32 ≤ (r + v1).toNat := no_of hc
      rw [f2] at hc'
      have hk' : KI U.toNat v1.toNat v0.toNat d1.toNat (q - 1#64).toNat (r + v1).toNat := by
        rw [f1, f2]
        exact ⟨f4, f3, by omega, by omega⟩
      repeat' first
        | refine W.seq ?_ | (refine W.regS G ?_; dsimp only) | refine SW.nil ?_ | refine thenQ_normal ?_ | refine W.skip ?_ | refine W.exit ?_ | refine thenQ_exit ?_ | refine inBlockQ_exit ?_ | refine inBlockQ_normal ?_ | refine W.block ?_
        | (apply SW.toC; refine SWcall.go True.intro ?_) | (apply SW.toOp; refine SWop.go True.intro ?_) | (apply SW.toCG; first | refine SWcall.yes True.intro ?_ | refine SWcall.no True.intro ?_) | (apply SW.toG; first | refine SWop.yes True.intro ?_ | refine SWop.no True.intro ?_)
      refine ⟨⟨(q - 1#64, r + v1), hk'⟩, Imp.le ?_, by show (q - 1#64).toNat < q.toNat; rw [f1]; omega⟩
      exact sL_leZ True.intro
  obtain ⟨q1n, hq1n⟩ : ∃ z, (U.toNat * P32 + d1.toNat) / (v1.toNat * P32 + v0.toNat) = z := ⟨_, rfl⟩
  obtain ⟨r1n, hr1n⟩ : ∃ z, (U.toNat * P32 + d1.toNat) % (v1.toNat * P32 + v0.toNat) = z := ⟨_, rfl⟩
  have hrl : r1n < v1.toNat * P32 + v0.toNat := by rw [← hr1n]; exact Nat.mod_lt _ (by omega)
  have hx1 := rem_bv (U := U) (d := d1) (V := Y) (Q := q1n) (R := r1n) (by rw [← hVV, ← hq1n, ← hr1n]; exact (Nat.div_add_mod' _ _).symm)
  rw [hq1n]
  rw [← hVV, hq1n, hr1n] at hN
  obtain ⟨q1, hq1⟩ : ∃ z, BitVec.ofNat 64 q1n = z := ⟨_, rfl⟩
  obtain ⟨u1, hu1⟩ : ∃ z, BitVec.ofNat 64 r1n = z := ⟨_, rfl⟩
  have vu1 : u1.toNat = r1n := by rw [← hu1, BitVec.toNat_ofNat]; exact Nat.mod_eq_of_lt (by omega)
  rw [hq1, hu1] at hx1
  rw [hq1]
  rw [← vu1] at hrl hN
  have hm := mod_bv (x := u1) hv10
  obtain ⟨q, hq⟩ : ∃ q, u1 / v1 = q := ⟨_, rfl⟩
  obtain ⟨r, hr⟩ : ∃ r, u1 - q * v1 = r := ⟨_, rfl⟩
  have hk : KI u1.toNat v1.toNat v0.toNat d0.toNat q.toNat r.toNat := by
    have := k_init b1 b2 b3 b5 hrl
    rw [← hr, ← hq, BitVec.toNat_udiv]
    rw [hm]
    exact this
  repeat' first
    | refine W.seq ?_ | (refine W.regS G ?_; dsimp only) | refine SW.nil ?_ | refine thenQ_normal ?_ | refine W.skip ?_ | refine W.exit ?_ | refine thenQ_exit ?_ | refine inBlockQ_exit ?_ | refine inBlockQ_normal ?_
    | (apply SW.toC; refine SWcall.go (And.intro hx1 (And.intro hv10 (And.intro hq hr))) ?_) | (apply SW.toOp; refine SWop.go (And.intro hx1 (And.intro hv10 (And.intro hq hr))) ?_) | (apply SW.toCG; first | refine SWcall.yes (And.intro hx1 (And.intro hv10 (And.intro hq hr))) ?_ | refine SWcall.no (And.intro hx1 (And.intro hv10 (And.intro hq hr))) ?_) | (apply SW.toG; first | refine SWop.yes (And.intro hx1 (And.intro hv10 (And.intro hq hr))) ?_ | refine SWop.no (And.intro hx1 (And.intro hv10 (And.intro hq hr))) ?_)
  refine W.mid (sL [(2, .u 64 Y), (8, .u 64 sB), (9, .u 64 v1), (10, .u 64 v0), (14, .u 64 d0), (15, .u 64 q1), (17, .u 64 u1), (18, .u 64 (BitVec.ofNat 64 ((u1.toNat * P32 + d0.toNat) / (v1.toNat * P32 + v0.toNat))))] [] 135) ?_ ?_
  · refine W.block ?_
    refine W.loopI (ι := {p : BitVec 64 × BitVec 64 // KI u1.toNat v1.toNat v0.toNat d0.toNat p.1.toNat p.2.toNat}) (fun p => sL [(2, .u 64 Y), (8, .u 64 sB), (9, .u 64 v1), (10, .u 64 v0), (14, .u 64 d0), (15, .u 64 q1), (17, .u 64 u1), (18, .u 64 p.1.1), (16, .u 64 p.1.2)] [] 135) (fun p => p.1.1.toNat) ⟨(q, r), hk⟩ (Imp.le ?_) ?_
    · exact sL_leZ (And.intro hx1 (And.intro hv10 (And.intro hq hr)))
    clear hq hr hk
    clear q r
    rintro ⟨⟨q, r⟩, hk⟩
    dsimp only at hk ⊢
    refine W.seq ?_
    refine W.midI (ι := {u : Unit // P32 ≤ q.toNat ∨ P32 * r.toNat + d0.toNat < q.toNat * v0.toNat}) (fun _ => sL [(2, .u 64 Y), (8, .u 64 sB), (9, .u 64 v1), (10, .u 64 v0), (14, .u 64 d0), (15, .u 64 q1), (17, .u 64 u1), (18, .u 64 q), (16, .u 64 r)] [] 135) ?_ ?_
    · by_cases c1 : P32 ≤ q.toNat
      · have g1 := dle (x := q) (y := 4294967296#64) c1
        simp only [castB_rfl] at g1
        repeat' first
          | refine W.seq ?_ | (refine W.regS G ?_; dsimp only) | refine SW.nil ?_ | refine thenQ_normal ?_ | refine W.skip ?_ | refine W.exit ?_ | refine thenQ_exit ?_ | refine inBlockQ_exit ?_ | refine inBlockQ_normal ?_ | refine W.block ?_
          | (apply SW.toC; refine SWcall.go g1 ?_) | (apply SW.toOp; refine SWop.go g1 ?_) | (apply SW.toCG; first | refine SWcall.yes g1 ?_ | refine SWcall.no g1 ?_) | (apply SW.toG; first | refine SWop.yes g1 ?_ | refine SWop.no g1 ?_)
        refine W.condZ G g1 ?_ ?_
        all_goals intro hc
        · repeat' first
            | refine W.seq ?_ | (refine W.regS G ?_; dsimp only) | refine SW.nil ?_ | refine thenQ_normal ?_ | refine W.skip ?_ | refine W.exit ?_ | refine thenQ_exit ?_ | refine inBlockQ_exit ?_ | refine inBlockQ_normal ?_ | refine W.block ?_
            | (apply SW.toC; refine SWcall.go g1 ?_) | (apply SW.toOp; refine SWop.go g1 ?_) | (apply SW.toCG; first | refine SWcall.yes g1 ?_ | refine SWcall.no g1 ?_) | (apply SW.toG; first | refine SWop.yes g1 ?_ | refine SWop.no g1 ?_)
          refine ⟨⟨(), .inl c1⟩, Imp.le ?_⟩
          exact sL_leZ g1
        · exact absurd hc (by decide)
      · have g1 := dnle (x := q) (y := 4294967296#64) c1
        simp only [castB_rfl] at g1
        have eq1 := mul_bv (q := q) (by omega) b3
        have eq2 := wide_bv hk.rb b5
        by_cases c2 : P32 * r.toNat + d0.toNat < q.toNat * v0.toNat
        · have g2 := dlt (x := q * v0) (y := 4294967296#64 * r + d0) (by rw [eq1, eq2]; exact c2)
          simp only [castB_rfl] at g2
          repeat' first
            | refine W.seq ?_ | (refine W.regS G ?_; dsimp only) | refine SW.nil ?_ | refine thenQ_normal ?_ | refine W.skip ?_ | refine W.exit ?_ | refine thenQ_exit ?_ | refine inBlockQ_exit ?_ | refine inBlockQ_normal ?_ | refine W.block ?_
            | (apply SW.toC; refine SWcall.go (And.intro g1 g2) ?_) | (apply SW.toOp; refine SWop.go (And.intro g1 g2) ?_) | (apply SW.toCG; first | refine SWcall.yes (And.intro g1 g2) ?_ | refine SWcall.no (And.intro g1 g2) ?_) | (apply SW.toG; first | refine SWop.yes (And.intro g1 g2) ?_ | refine SWop.no (And.intro g1 g2) ?_)
          refine W.condZ G (And.intro g1 g2) ?_ ?_
          all_goals intro hc
          · repeat' first
              | refine W.seq ?_ | (refine W.regS G ?_; dsimp only) | refine SW.nil ?_ | refine thenQ_normal ?_ | refine W.skip ?_ | refine W.exit ?_ | refine thenQ_exit ?_ | refine inBlockQ_exit ?_ | refine inBlockQ_normal ?_ | refine W.block ?_
              | (apply SW.toC; refine SWcall.go (And.intro g1 g2) ?_) | (apply SW.toOp; refine SWop.go (And.intro g1 g2) ?_) | (apply SW.toCG; first | refine SWcall.yes (And.intro g1 g2) ?_ | refine SWcall.no (And.intro g1 g2) ?_) | (apply SW.toG; first | refine SWop.yes (And.intro g1 g2) ?_ | refine SWop.no (And.intro g1 g2) ?_)
            refine ⟨⟨(), .inr c2⟩, Imp.le ?_⟩
            exact sL_leZ (And.intro g1 g2)
          · exact absurd hc (by decide)
        · have g2 := dnlt (x := q * v0) (y := 4294967296#64 * r + d0) (by rw [eq1, eq2]; exact c2)
          simp only [castB_rfl] at g2
          repeat' first
            | refine W.seq ?_ | (refine W.regS G ?_; dsimp only) | refine SW.nil ?_ | refine thenQ_normal ?_ | refine W.skip ?_ | refine W.exit ?_ | refine thenQ_exit ?_ | refine inBlockQ_exit ?_ | refine inBlockQ_normal ?_ | refine W.block ?_
            | (apply SW.toC; refine SWcall.go (And.intro g1 g2) ?_) | (apply SW.toOp; refine SWop.go (And.intro g1 g2) ?_) | (apply SW.toCG; first | refine SWcall.yes (And.intro g1 g2) ?_ | refine SWcall.no (And.intro g1 g2) ?_) | (apply SW.toG; first | refine SWop.yes (And.intro g1 g2) ?_ | refine SWop.no (And.intro g1 g2) ?_)
          refine W.condZ G (And.intro g1 g2) ?_ ?_
          all_goals intro hc
          · exact absurd hc (by decide)
          · have hQ := k_done1 (by omega) hk (Nat.le_of_not_lt c2)
            have hB : BitVec.ofNat 64 ((u1.toNat * P32 + d0.toNat) / (v1.toNat * P32 + v0.toNat)) = q := by rw [hQ, bv_nat]
            repeat' first
              | refine W.seq ?_ | (refine W.regS G ?_; dsimp only) | refine SW.nil ?_ | refine thenQ_normal ?_ | refine W.skip ?_ | refine W.exit ?_ | refine thenQ_exit ?_ | refine inBlockQ_exit ?_ | refine inBlockQ_normal ?_ | refine W.block ?_
              | (apply SW.toC; refine SWcall.go (And.intro g1 g2) ?_) | (apply SW.toOp; refine SWop.go (And.intro g1 g2) ?_) | (apply SW.toCG; first | refine SWcall.yes (And.intro g1 g2) ?_ | refine SWcall.no (And.intro g1 g2) ?_) | (apply SW.toG; first | refine SWop.yes (And.intro g1 g2) ?_ | refine SWop.no (And.intro g1 g2) ?_)
            refine Imp.le ?_
            exact sL_leZ (And.intro hB (And.intro g1 g2))
    rintro ⟨_, ht⟩
    obtain ⟨f1, f2, f3, f4, f5, f6⟩ := k_bv b2 b5 hrl hk ht
    have b2' := b2
    have hrb := hk.rb
    repeat' first
      | refine W.seq ?_ | (refine W.regS G ?_; dsimp only) | refine SW.nil ?_ | refine thenQ_normal ?_ | refine W.skip ?_ | refine W.exit ?_ | refine thenQ_exit ?_ | refine inBlockQ_exit ?_ | refine inBlockQ_normal ?_ | refine W.block ?_
      | (apply SW.toC; refine SWcall.go True.intro ?_) | (apply SW.toOp; refine SWop.go True.intro ?_) | (apply SW.toCG; first | refine SWcall.yes True.intro ?_ | refine SWcall.no True.intro ?_) | (apply SW.toG; first | refine SWop.yes True.intro ?_ | refine SWop.no True.intro ?_)
    refine W.condZ G True.intro ?_ ?_
    all_goals intro hc
    · have hc' : P32 ≤ (r + v1).toNat := yes_of hc
      rw [f2] at hc'
      have hQ := k_done2 (by omega) b3 f4 f3 f5 hc'
      have hB : BitVec.ofNat 64 ((u1.toNat * P32 + d0.toNat) / (v1.toNat * P32 + v0.toNat)) = q - 1#64 := by rw [hQ, ← f1, bv_nat]
      repeat' first
        | refine W.seq ?_ | (refine W.regS G ?_; dsimp only) | refine SW.nil ?_ | refine thenQ_normal ?_ | refine W.skip ?_ | refine W.exit ?_ | refine thenQ_exit ?_ | refine inBlockQ_exit ?_ | refine inBlockQ_normal ?_ | refine W.block ?_
        | (apply SW.toC; refine SWcall.go True.intro ?_) | (apply SW.toOp; refine SWop.go True.intro ?_) | (apply SW.toCG; first | refine SWcall.yes True.intro ?_ | refine SWcall.no True.intro ?_) | (apply SW.toG; first | refine SWop.yes True.intro ?_ | refine SWop.no True.intro ?_)
      refine Imp.le ?_
      exact sL_leZ hB
    · have hc' : ¬ P32 ≤ (r + v1).toNat := no_of hc
      rw [f2] at hc'
      have hk' : KI u1.toNat v1.toNat v0.toNat d0.toNat (q - 1#64).toNat (r + v1).toNat := by
        rw [f1, f2]
        exact ⟨f4, f3, by omega, by omega⟩
      repeat' first
        | refine W.seq ?_ | (refine W.regS G ?_; dsimp only) | refine SW.nil ?_ | refine thenQ_normal ?_ | refine W.skip ?_ | refine W.exit ?_ | refine thenQ_exit ?_ | refine inBlockQ_exit ?_ | refine inBlockQ_normal ?_ | refine W.block ?_
        | (apply SW.toC; refine SWcall.go True.intro ?_) | (apply SW.toOp; refine SWop.go True.intro ?_) | (apply SW.toCG; first | refine SWcall.yes True.intro ?_ | refine SWcall.no True.intro ?_) | (apply SW.toG; first | refine SWop.yes True.intro ?_ | refine SWop.no True.intro ?_)
      refine ⟨⟨(q - 1#64, r + v1), hk'⟩, Imp.le ?_, by show (q - 1#64).toNat < q.toNat; rw [f1]; omega⟩
      exact sL_leZ True.intro
  obtain ⟨q0n, hq0n⟩ : ∃ z, (u1.toNat * P32 + d0.toNat) / (v1.toNat * P32 + v0.toNat) = z := ⟨_, rfl⟩
  obtain ⟨r0n, hr0n⟩ : ∃ z, (u1.toNat * P32 + d0.toNat) % (v1.toNat * P32 + v0.toNat) = z := ⟨_, rfl⟩
  have hx0 := rem_bv (U := u1) (d := d0) (V := Y) (Q := q0n) (R := r0n) (by rw [← hVV, ← hq0n, ← hr0n]; exact (Nat.div_add_mod' _ _).symm)
  rw [hq0n]
  rw [hq0n, hr0n] at hN
  obtain ⟨hN1, hN2⟩ := hN
  rw [hVV, vV] at hN1 hN2
  rw [Nat.mul_div_mul_right _ _ (Nat.two_pow_pos s)] at hN1
  rw [Nat.mul_mod_mul_right] at hN2
  have hq2 := quo_bv q1n q0n
  rw [hq1] at hq2
  have hr2 : BitVec.ofNat 64 r0n >>> s = BitVec.ofNat 64 ((hh.toNat * B64 + x.toNat) % y.toNat) := by
    refine BitVec.eq_of_toNat_eq ?_
    have hl : (hh.toNat * B64 + x.toNat) % y.toNat < y.toNat := Nat.mod_lt _ (by omega)
    have hl2 : (hh.toNat * B64 + x.toNat) % y.toNat * 2 ^ s < 18446744073709551616 := Nat.lt_trans (Nat.mul_lt_mul_of_pos_right hl (Nat.two_pow_pos s)) (by rw [← vV]; exact n2)
    have e1 : (BitVec.ofNat 64 r0n).toNat = (hh.toNat * B64 + x.toNat) % y.toNat * 2 ^ s := by rw [BitVec.toNat_ofNat, ← hN2]; exact Nat.mod_eq_of_lt hl2
    have e2 : (BitVec.ofNat 64 ((hh.toNat * B64 + x.toNat) % y.toNat)).toNat = (hh.toNat * B64 + x.toNat) % y.toNat := by rw [BitVec.toNat_ofNat]; exact Nat.mod_eq_of_lt (Nat.lt_trans hl hyL)
    rw [BitVec.toNat_ushiftRight, e1, e2, Nat.shiftRight_eq_div_pow, Nat.mul_div_cancel _ (Nat.two_pow_pos s)]
  rw [← hr2, hN1, ← hq2]
  repeat' first
    | refine W.seq ?_ | (refine W.regS G ?_; dsimp only) | refine SW.nil ?_ | refine thenQ_normal ?_ | refine W.skip ?_ | refine W.exit ?_ | refine thenQ_exit ?_ | refine inBlockQ_exit ?_ | refine inBlockQ_normal ?_ | refine W.block ?_
    | (apply SW.toC; refine SWcall.go (And.intro hx0 e3) ?_) | (apply SW.toOp; refine SWop.go (And.intro hx0 e3) ?_) | (apply SW.toCG; first | refine SWcall.yes (And.intro hx0 e3) ?_ | refine SWcall.no (And.intro hx0 e3) ?_) | (apply SW.toG; first | refine SWop.yes (And.intro hx0 e3) ?_ | refine SWop.no (And.intro hx0 e3) ?_)
  refine W.ret ?_
  repeat' first
    | refine thenQ_ret ?_
    | refine inBlockQ_ret ?_
  refine fin2Z (And.intro hx0 e3) ?_ ?_
  · exact leV_refl
  · exact leV_refl
end Go.Vm.C01

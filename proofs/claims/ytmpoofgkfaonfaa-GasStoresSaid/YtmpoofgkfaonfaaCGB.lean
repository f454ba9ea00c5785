/- What some functions of the program compute, walked through once. -/
import Derived.Test.YtmpoofgkfaonfaaCGA
namespace Go.Vm.C19
open Go Go.Proofs
set_option linter.unusedVariables false
set_option linter.unusedSimpArgs false
set_option maxRecDepth 100000
set_option maxHeartbeats 8000000

theorem next_sound : SoundFn Try.prog glB 9 nextS.run := by
  have G := good_of (P := Try.prog) glB_ro (l := [(36, partS), (43, AddS), (44, CmpS), (41, NotS)]) (by simp only [List.forall_mem_cons]; exact ⟨part_sound, Add_sound, Cmp_sound, Not_sound, by simp⟩)
  refine soundFn_of_W G Try.func9 (by decide) rfl (by decide) ?_
  intro ins ret outs h
  unfold nextS at h
  dsimp only at h
  split at h
  rotate_left
  · cases h
  rename_i a u l
  obtain ⟨⟨la, hnlt⟩, h'⟩ := chk_some h
  clear h
  cases h'
  refine ⟨by show 3 ≤ 51; decide, fun w0 ext av => ?_⟩
  rw [Try.ntmps9, st0_eq]
  have hF : nextF a u.toNat l.toNat = if l.toNat / 2 = 0 ∨ u.toNat = l.toNat / 2 then a
    else if u.toNat < l.toNat / 2 then wOf (wv a + B256 - wv (partF (wv a) (l.toNat / 2 - u.toNat) (l.toNat / 2)))
    else if wv (wOf (wv a + wv (if partF (wv a) (u.toNat - l.toNat / 2) (l.toNat / 2) = zeros 64 4 then [1#64, 0#64, 0#64, 0#64] else partF (wv a) (u.toNat - l.toNat / 2) (l.toNat / 2)))) < wv a then wOf (B256 - 1 - wv (zeros 64 4)) else wOf (wv a + wv (if partF (wv a) (u.toNat - l.toNat / 2) (l.toNat / 2) = zeros 64 4 then [1#64, 0#64, 0#64, 0#64] else partF (wv a) (u.toNat - l.toNat / 2) (l.toNat / 2))) := rfl
  have vt : (l / 2#64).toNat = l.toNat / 2 := by rw [BitVec.toNat_udiv]; rfl
  have h2 : ¬ (2#64 : BitVec 64) = 0 := by decide
  obtain ⟨t, ht⟩ : ∃ t, l / 2#64 = t := ⟨_, rfl⟩
  rw [ht] at vt
  rw [← vt] at hF
  refine W.seq ?_
  refine W.mid (sL [(1, .u 64 u), (2, .u 64 l), (3, .p 3 0 0 0), (6, .p 6 0 0 0)] [(3, .agg 4 (.u 64 a)), (6, .agg 4 (.u 64 (zeros 64 4)))] 51) ?_ ?_
  · repeat' first
      | refine W.seq ?_ | (refine W.regS G ?_; dsimp only) | refine SW.nil ?_ | refine thenQ_normal ?_ | refine W.skip ?_ | refine W.exit ?_ | refine thenQ_exit ?_ | refine inBlockQ_exit ?_ | refine inBlockQ_normal ?_ | refine W.block ?_
      | (apply SW.toC; refine SWcall.go True.intro ?_) | (apply SW.toOp; refine SWop.go True.intro ?_) | (apply SW.toCG; first | refine SWcall.yes True.intro ?_ | refine SWcall.no True.intro ?_) | (apply SW.toG; first | refine SWop.yes True.intro ?_ | refine SWop.no True.intro ?_)
    refine Imp.le ?_
    exact sL_leZ True.intro
  refine W.seq ?_
  refine W.mid (sL [(1, .u 64 u), (3, .p 3 0 0 0), (6, .p 6 0 0 0), (7, .p 7 0 0 0)] [(3, .agg 4 (.u 64 a)), (6, .agg 4 (.u 64 (zeros 64 4))), (7, .u 64 t)] 51) ?_ ?_
  · skip
    repeat' first
      | refine W.seq ?_ | (refine W.regS G ?_; dsimp only) | refine SW.nil ?_ | refine thenQ_normal ?_ | refine W.skip ?_ | refine W.exit ?_ | refine thenQ_exit ?_ | refine inBlockQ_exit ?_ | refine inBlockQ_normal ?_ | refine W.block ?_
      | (apply SW.toC; refine SWcall.go (And.intro h2 ht) ?_) | (apply SW.toOp; refine SWop.go (And.intro h2 ht) ?_) | (apply SW.toCG; first | refine SWcall.yes (And.intro h2 ht) ?_ | refine SWcall.no (And.intro h2 ht) ?_) | (apply SW.toG; first | refine SWop.yes (And.intro h2 ht) ?_ | refine SWop.no (And.intro h2 ht) ?_)
    refine Imp.le ?_
    exact sL_leZ (And.intro h2 ht)
  by_cases hz : t = 0#64
  · have hz2 : t.toNat = 0 := by rw [hz]; rfl
    rw [if_pos (.inl hz2)] at hF
    rw [hF]
    repeat' first
      | refine W.seq ?_ | (refine W.regS G ?_; dsimp only) | refine SW.nil ?_ | refine thenQ_normal ?_ | refine W.skip ?_ | refine W.exit ?_ | refine thenQ_exit ?_ | refine inBlockQ_exit ?_ | refine inBlockQ_normal ?_ | refine W.block ?_
      | (apply SW.toC; refine SWcall.go hz ?_) | (apply SW.toOp; refine SWop.go hz ?_) | (apply SW.toCG; first | refine SWcall.yes hz ?_ | refine SWcall.no hz ?_) | (apply SW.toG; first | refine SWop.yes hz ?_ | refine SWop.no hz ?_)
    refine W.condZ G hz ?_ ?_
    all_goals intro hc
    · repeat' first
        | refine W.seq ?_ | (refine W.regS G ?_; dsimp only) | refine SW.nil ?_ | refine thenQ_normal ?_ | refine W.skip ?_ | refine W.exit ?_ | refine thenQ_exit ?_ | refine inBlockQ_exit ?_ | refine inBlockQ_normal ?_ | refine W.block ?_
        | (apply SW.toC; refine SWcall.go hz ?_) | (apply SW.toOp; refine SWop.go hz ?_) | (apply SW.toCG; first | refine SWcall.yes hz ?_ | refine SWcall.no hz ?_) | (apply SW.toG; first | refine SWop.yes hz ?_ | refine SWop.no hz ?_)
      refine W.ret ?_
      repeat' first
        | refine thenQ_ret ?_
        | refine inBlockQ_ret ?_
      refine fin1Z hz ?_
      exact leV_refl
    · exact absurd hc (by decide)
  have d1 := decU_ne hz
  have ht0 : 0 < t.toNat := Nat.pos_of_ne_zero fun c => hz (BitVec.eq_of_toNat_eq c)
  by_cases hu : u = t
  · subst hu
    rw [if_pos (.inr rfl)] at hF
    rw [hF]
    repeat' first
      | refine W.seq ?_ | (refine W.regS G ?_; dsimp only) | refine SW.nil ?_ | refine thenQ_normal ?_ | refine W.skip ?_ | refine W.exit ?_ | refine thenQ_exit ?_ | refine inBlockQ_exit ?_ | refine inBlockQ_normal ?_ | refine W.block ?_
      | (apply SW.toC; refine SWcall.go d1 ?_) | (apply SW.toOp; refine SWop.go d1 ?_) | (apply SW.toCG; first | refine SWcall.yes d1 ?_ | refine SWcall.no d1 ?_) | (apply SW.toG; first | refine SWop.yes d1 ?_ | refine SWop.no d1 ?_)
    refine W.condZ G d1 ?_ ?_
    all_goals intro hc
    · repeat' first
        | refine W.seq ?_ | (refine W.regS G ?_; dsimp only) | refine SW.nil ?_ | refine thenQ_normal ?_ | refine W.skip ?_ | refine W.exit ?_ | refine thenQ_exit ?_ | refine inBlockQ_exit ?_ | refine inBlockQ_normal ?_ | refine W.block ?_
        | (apply SW.toC; refine SWcall.go d1 ?_) | (apply SW.toOp; refine SWop.go d1 ?_) | (apply SW.toCG; first | refine SWcall.yes d1 ?_ | refine SWcall.no d1 ?_) | (apply SW.toG; first | refine SWop.yes d1 ?_ | refine SWop.no d1 ?_)
      refine W.ret ?_
      repeat' first
        | refine thenQ_ret ?_
        | refine inBlockQ_ret ?_
      refine fin1Z d1 ?_
      exact leV_refl
    · exact absurd hc (by decide)
  have d2 := decU_ne hu
  have hut : ¬ u.toNat = t.toNat := fun c => hu (BitVec.eq_of_toNat_eq c)
  rw [if_neg (by omega)] at hF
  repeat' first
    | refine W.seq ?_ | (refine W.regS G ?_; dsimp only) | refine SW.nil ?_ | refine thenQ_normal ?_ | refine W.skip ?_ | refine W.exit ?_ | refine thenQ_exit ?_ | refine inBlockQ_exit ?_ | refine inBlockQ_normal ?_ | refine W.block ?_
    | (apply SW.toC; refine SWcall.go (And.intro d1 d2) ?_) | (apply SW.toOp; refine SWop.go (And.intro d1 d2) ?_) | (apply SW.toCG; first | refine SWcall.yes (And.intro d1 d2) ?_ | refine SWcall.no (And.intro d1 d2) ?_) | (apply SW.toG; first | refine SWop.yes (And.intro d1 d2) ?_ | refine SWop.no (And.intro d1 d2) ?_)
  refine W.condZ G (And.intro d1 d2) ?_ ?_
  all_goals intro hc
  · exact absurd hc (by decide)
  repeat' first
    | refine W.seq ?_ | (refine W.regS G ?_; dsimp only) | refine SW.nil ?_ | refine thenQ_normal ?_ | refine W.skip ?_ | refine W.exit ?_ | refine thenQ_exit ?_ | refine inBlockQ_exit ?_ | refine inBlockQ_normal ?_ | refine W.block ?_
    | (apply SW.toC; refine SWcall.go True.intro ?_) | (apply SW.toOp; refine SWop.go True.intro ?_) | (apply SW.toCG; first | refine SWcall.yes True.intro ?_ | refine SWcall.no True.intro ?_) | (apply SW.toG; first | refine SWop.yes True.intro ?_ | refine SWop.no True.intro ?_)
  have hul := u.isLt
  have htl := t.isLt
  refine W.condZ G True.intro ?_ ?_
  all_goals intro hd
  · have hd' : u.toNat < t.toNat := yes_of hd
    rw [← vt] at hnlt
    exact absurd hd' hnlt
  have hd' : ¬ u.toNat < t.toNat := no_of hd
  rw [if_neg hd'] at hF
  have e1 : (u - t).toNat = u.toNat - t.toNat := by rw [BitVec.toNat_sub]; omega
  rw [← e1] at hF
  have lp := partF_len (wv a) (u - t).toNat t.toNat
  obtain ⟨p, hp⟩ : ∃ p, partF (wv a) (u - t).toNat t.toNat = p := ⟨_, rfl⟩
  rw [hp] at hF lp
  obtain ⟨m, hm⟩ : ∃ m, (if p = zeros 64 4 then [1#64, 0#64, 0#64, 0#64] else p) = m := ⟨_, rfl⟩
  rw [hm] at hF
  refine W.skip ?_
  refine thenQ_normal ?_
  refine W.seq ?_
  refine W.mid (sL [(1, .u 64 u), (3, .p 3 0 0 0), (6, .p 6 0 0 0), (7, .p 7 0 0 0), (9, .p 9 0 0 0)] [(3, .agg 4 (.u 64 a)), (6, .agg 4 (.u 64 (zeros 64 4))), (7, .u 64 t), (9, .agg 4 (.u 64 p))] 51) ?_ ?_
  · repeat' first
      | refine W.seq ?_ | (refine W.regS G ?_; dsimp only) | refine SW.nil ?_ | refine thenQ_normal ?_ | refine W.skip ?_ | refine W.exit ?_ | refine thenQ_exit ?_ | refine inBlockQ_exit ?_ | refine inBlockQ_normal ?_ | refine W.block ?_
      | (apply SW.toC; refine SWcall.go (And.intro partS.eq_1 (And.intro la hp)) ?_) | (apply SW.toClo; refine SWclo.go (And.intro partS.eq_1 (And.intro la hp)) ?_) | (apply SW.toOp; refine SWop.go (And.intro partS.eq_1 (And.intro la hp)) ?_) | (apply SW.toCG; first | refine SWcall.yes (And.intro partS.eq_1 (And.intro la hp)) ?_ | refine SWcall.no (And.intro partS.eq_1 (And.intro la hp)) ?_) | (apply SW.toG; first | refine SWop.yes (And.intro partS.eq_1 (And.intro la hp)) ?_ | refine SWop.no (And.intro partS.eq_1 (And.intro la hp)) ?_)
    refine Imp.le ?_
    exact sL_leZ (And.intro partS.eq_1 (And.intro la hp))
  refine W.seq ?_
  refine W.mid (sL [(1, .u 64 u), (3, .p 3 0 0 0), (6, .p 6 0 0 0), (7, .p 7 0 0 0), (9, .p 9 0 0 0)] [(3, .agg 4 (.u 64 a)), (6, .agg 4 (.u 64 (zeros 64 4))), (7, .u 64 t), (9, .agg 4 (.u 64 m))] 51) ?_ ?_
  · repeat' first
      | refine W.seq ?_ | (refine W.regS G ?_; dsimp only) | refine SW.nil ?_ | refine thenQ_normal ?_ | refine W.skip ?_ | refine W.exit ?_ | refine thenQ_exit ?_ | refine inBlockQ_exit ?_ | refine inBlockQ_normal ?_ | refine W.block ?_
      | (apply SW.toC; refine SWcall.go True.intro ?_) | (apply SW.toOp; refine SWop.go True.intro ?_) | (apply SW.toCG; first | refine SWcall.yes True.intro ?_ | refine SWcall.no True.intro ?_) | (apply SW.toG; first | refine SWop.yes True.intro ?_ | refine SWop.no True.intro ?_)
    refine W.condZ G True.intro ?_ ?_
    all_goals intro he
    · have he' : p = zeros 64 4 := yes_of he
      rw [if_pos he'] at hm
      have hm2 := hm.symm
      repeat' first
        | refine W.seq ?_ | (refine W.regS G ?_; dsimp only) | refine SW.nil ?_ | refine thenQ_normal ?_ | refine W.skip ?_ | refine W.exit ?_ | refine thenQ_exit ?_ | refine inBlockQ_exit ?_ | refine inBlockQ_normal ?_ | refine W.block ?_
        | (apply SW.toC; refine SWcall.go True.intro ?_) | (apply SW.toOp; refine SWop.go True.intro ?_) | (apply SW.toCG; first | refine SWcall.yes True.intro ?_ | refine SWcall.no True.intro ?_) | (apply SW.toG; first | refine SWop.yes True.intro ?_ | refine SWop.no True.intro ?_)
      refine Imp.le ?_
      exact sL_leZ hm2
    · have he' : ¬ p = zeros 64 4 := no_of he
      rw [if_neg he'] at hm
      have hm2 := hm.symm
      repeat' first
        | refine W.seq ?_ | (refine W.regS G ?_; dsimp only) | refine SW.nil ?_ | refine thenQ_normal ?_ | refine W.skip ?_ | refine W.exit ?_ | refine thenQ_exit ?_ | refine inBlockQ_exit ?_ | refine inBlockQ_normal ?_ | refine W.block ?_
        | (apply SW.toC; refine SWcall.go True.intro ?_) | (apply SW.toOp; refine SWop.go True.intro ?_) | (apply SW.toCG; first | refine SWcall.yes True.intro ?_ | refine SWcall.no True.intro ?_) | (apply SW.toG; first | refine SWop.yes True.intro ?_ | refine SWop.no True.intro ?_)
      refine Imp.le ?_
      exact sL_leZ hm2
  obtain ⟨s, hs⟩ : ∃ s, wOf (wv a + wv m) = s := ⟨_, rfl⟩
  rw [hs] at hF
  have hg := cmpI_range (wv s) (wv a)
  have hlt := cmpI_lt (wv s) (wv a)
  repeat' first
    | refine W.seq ?_ | (refine W.regS G ?_; dsimp only) | refine SW.nil ?_ | refine thenQ_normal ?_ | refine W.skip ?_ | refine W.exit ?_ | refine thenQ_exit ?_ | refine inBlockQ_exit ?_ | refine inBlockQ_normal ?_ | refine W.block ?_
    | (apply SW.toC; refine SWcall.go (And.intro AddS.eq_1 (And.intro CmpS.eq_1 (And.intro la (And.intro hs hlt)))) ?_) | (apply SW.toOp; refine SWop.go (And.intro AddS.eq_1 (And.intro CmpS.eq_1 (And.intro la (And.intro hs hlt)))) ?_) | (apply SW.toCG; first | refine SWcall.yes (And.intro AddS.eq_1 (And.intro CmpS.eq_1 (And.intro la (And.intro hs hlt)))) ?_ | refine SWcall.no (And.intro AddS.eq_1 (And.intro CmpS.eq_1 (And.intro la (And.intro hs hlt)))) ?_) | (apply SW.toG; first | refine SWop.yes (And.intro AddS.eq_1 (And.intro CmpS.eq_1 (And.intro la (And.intro hs hlt)))) ?_ | refine SWop.no (And.intro AddS.eq_1 (And.intro CmpS.eq_1 (And.intro la (And.intro hs hlt)))) ?_)
  refine W.condZ G (And.intro AddS.eq_1 (And.intro CmpS.eq_1 (And.intro la (And.intro hs hlt)))) ?_ ?_
  all_goals intro hx
  · have hx' : wv s < wv a := of_decide_eq_true hx
    rw [if_pos hx'] at hF
    rw [hF]
    have lz : (zeros 64 4).length = 4 := rfl
    repeat' first
      | refine W.seq ?_ | (refine W.regS G ?_; dsimp only) | refine SW.nil ?_ | refine thenQ_normal ?_ | refine W.skip ?_ | refine W.exit ?_ | refine thenQ_exit ?_ | refine inBlockQ_exit ?_ | refine inBlockQ_normal ?_ | refine W.block ?_
      | (apply SW.toC; refine SWcall.go (And.intro NotS.eq_1 lz) ?_) | (apply SW.toOp; refine SWop.go (And.intro NotS.eq_1 lz) ?_) | (apply SW.toCG; first | refine SWcall.yes (And.intro NotS.eq_1 lz) ?_ | refine SWcall.no (And.intro NotS.eq_1 lz) ?_) | (apply SW.toG; first | refine SWop.yes (And.intro NotS.eq_1 lz) ?_ | refine SWop.no (And.intro NotS.eq_1 lz) ?_)
    refine W.ret ?_
    repeat' first
      | refine thenQ_ret ?_
      | refine inBlockQ_ret ?_
    refine fin1Z (And.intro NotS.eq_1 lz) ?_
    exact leV_refl
  · have hx' : ¬ wv s < wv a := of_decide_eq_false hx
    rw [if_neg hx'] at hF
    rw [hF]
    repeat' first
      | refine W.seq ?_ | (refine W.regS G ?_; dsimp only) | refine SW.nil ?_ | refine thenQ_normal ?_ | refine W.skip ?_ | refine W.exit ?_ | refine thenQ_exit ?_ | refine inBlockQ_exit ?_ | refine inBlockQ_normal ?_ | refine W.block ?_
      | (apply SW.toC; refine SWcall.go True.intro ?_) | (apply SW.toOp; refine SWop.go True.intro ?_) | (apply SW.toCG; first | refine SWcall.yes True.intro ?_ | refine SWcall.no True.intro ?_) | (apply SW.toG; first | refine SWop.yes True.intro ?_ | refine SWop.no True.intro ?_)
    refine W.ret ?_
    repeat' first
      | refine thenQ_ret ?_
      | refine inBlockQ_ret ?_
    refine fin1Z True.intro ?_
    exact leV_refl
end Go.Vm.C19

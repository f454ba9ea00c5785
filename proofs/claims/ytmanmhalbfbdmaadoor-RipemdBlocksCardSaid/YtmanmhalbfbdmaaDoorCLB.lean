/- For every five numbers of 32 bits and every list of bytes that is as long as a machine holds the law RipemdBlocks answers true: a block is taken in as the document says, whatever was taken in ahead of it. -/
import Derived.Test.YtmanmhalbfbdmaaDoorCP
namespace Go.Vm.C05
open Go Go.Proofs Go.Proofs.YtmanmhalbfbdmaaDoor Go.ChangeShapes Go.WideShapes Go.ChangeAt Go.RowKit
set_option linter.unusedVariables false
set_option linter.unusedSimpArgs false
set_option maxRecDepth 100000
set_option maxHeartbeats 8000000

theorem ripemdBlocks_lifted (os : Os) (started : os.Started) (H : Type) (enc : TypeId × Value → H) :
    ReturnsInHanded {} Tryd.checked os 4 .any (fun w args => (Rows.ripemdBlocksSpec.pre enc Tryd.prog Tryd.f4 [] false w args ∧ laidMetH Tryd.prog laid3 w) ∧ sizedMet enc Tryd.prog Tryd.f4 (OpenSpec.ofChange Rows.ripemdBlocksSpec) false w args)
      (Rows.ripemdBlocksSpec.post enc Tryd.prog Tryd.f4 false true false false) := by
  refine returnsInHanded_of_change_and (C := Tryd.checked) (X := fun w _ => laidMetH Tryd.prog laid3 w) (fun _ _ _ hh h => h.of_heap hh) own started (by kernel_rfl) Tryd.func4
    (ChangeSpec.witness_shaped (enc := enc) (C := Tryd.checked) (os := os) (X := fun w _ => laidMetH Tryd.prog laid3 w) false (World.doorLaid Tryd.prog 42 os) #[.agg (Array.replicate 5 (.int .u32 0)), .slice none 0 0] 8 rfl (World.shaped_of_RefB (by kernel_rfl) (by kernel_rfl)) (by kernel_rfl) (by kernel_rfl) (by kernel_rfl) (door_met os _)) ?_
  intro W base args ds gs before hval0 hW hcnd hsz hL hholds
  have hval : ∀ (j : Nat) t v, Tryd.f4.params[j]? = some t → args[j]? = some v → Value.okWide Tryd.prog W .any base t v := hval0
  have hW' := hW
  obtain ⟨p, q, hA0, hV, rfl, hfz, hnd⟩ := hW
  have hA : DataW.TrodAll enc Tryd.prog W 0 (fun _ => true) true Tryd.f4.params.toList args.toList ds p := hA0
  rw [Tryd.params4] at hA hval
  obtain ⟨v0, vs0, d0, ds0, p0, q0, hargs, rfl, rfl, h0, r0⟩ := trodAll_cons hA
  obtain ⟨v1, vs1, d1, ds1, p1, q1, rfl, rfl, rfl, h1, r1⟩ := trodAll_cons r0
  obtain ⟨rfl, rfl, rfl⟩ := trodAll_nil r1
  obtain rfl : args = #[v0, v1] := by cases args; simp_all
  obtain ⟨rfl, rfl⟩ := trodVars_none hV
  have k0 := h0
  have lt0 : ∀ x ∈ p0, x.block < W.heap.size := by obtain ⟨m, hm⟩ := k0; exact DataW.trod_lt m _ _ _ hm
  obtain ⟨cs0, rfl, _⟩ := okWide_arr Tryd.underlying28 (hval 0 28 v0 rfl rfl)
  obtain ⟨fu0, hf0⟩ := h0
  obtain ⟨x0, o0, R0⟩ := open1 (c := c0 W) (w' := W) t28 rfl hf0
  obtain ⟨a0, l0, rfl⟩ : ∃ xs : List (BitVec 32), xs.length = 5 ∧ x0 = .agg 5 (.u 32 xs) := o0
  have k1 := h1
  have lt1 : ∀ x ∈ p1, x.block < W.heap.size := by obtain ⟨m, hm⟩ := k1; exact DataW.trod_lt m _ _ _ hm
  obtain ⟨ad1, len1, cap1, rfl⟩ := okWide_slice Tryd.underlying22 (hval 1 22 v1 rfl rfl)
  obtain ⟨fu1, hf1⟩ := h1
  have B1 := reach_len (P := Tryd.prog) hsz (j := 1) (t := 22) (e := 5) (d := d1) (by rw [Tryd.params4]; rfl) rfl t22 Tryd.underlying22 (by rw [show Tryd.prog.bytesOf 5 = 1 by kernel_rfl]; decide) hf1
  rw [show Tryd.prog.bytesOf 5 = 1 by kernel_rfl] at B1
  have C1 : len1 ≤ 140737488351232 := by simp only [reachBytes] at B1; omega
  obtain ⟨a1, l1, R1⟩ := open_slu (w := W) t22 (by unfold okW; omega) hf1 (by simp only [LIM]; omega)
  clear hA0 hval0
  refine (law_calls (vs := [.agg cs0, .slice ad1 len1 cap1]) blocks_sound Tryd.func4 rfl (by decide) (ins := [.agg 5 (.u 32 a0), .sl false (.u 8 a1)]) (chk_ok (by omega)) ⟨⟨rfl, _, rfl, R0⟩, ⟨rfl, R1⟩, trivial⟩ (globs hL)).mono fun e W' ⟨he, bel⟩ => ?_
  subst he
  exact ⟨_, rfl, _, _, _, [], _, [], hW', trodAll_mk1 (shut_bool Tryd.underlying4 _), (trodAll_cons_mk (Below.trod laidOut (by kernel_rfl) (of_decide_eq_true (by kernel_rfl)) k0 bel lt0) (trodAll_cons_mk (Below.trod laidOut (by kernel_rfl) (of_decide_eq_true (by kernel_rfl)) k1 bel lt1) trodAll_mk0)), rfl, bel.frame _, fun h => by cases h⟩

theorem ripemdBlocks_over : Rows.RipemdBlocksSaid :=
  OpenClaim.holds_of_wide 4 Tryd.f4 rfl rfl rfl rfl rfl rfl rfl ⟨rfl, rfl, rfl, rfl, rfl⟩ rfl rfl rfl rfl rfl (by kernel_rfl) Tryd.func4 (by kernel_rfl)
    (of_decide_eq_true (by kernel_rfl)) (by unfold Func.isWrapper; first | (rw [if_pos (by decide +kernel)]; kernel_rfl) | (rw [if_neg (by decide +kernel)]; exact ⟨rfl, rfl⟩))
    (fun os started H enc _ => ripemdBlocks_lifted os started H enc)

theorem ripemdBlocks_card : Rows.RipemdBlocksCardSaid :=
  Claim7.holds_tied_plain_at .later [] [.data, .data, .data, .data, .data] true (true, "80eddd6576d7fae9d1681af31a77d6c9d0efbb5305c12bd0184052f40dc3edbb") false
    ripemdBlocks_over (fun _ h => by cases h) (by kernel_rfl) (fun _ h => by cases h) ripemdBlocks_row_tie rfl ⟨rfl, rfl⟩ (by kernel_rfl) rfl
    (fun f fn hf hfn => by
      obtain rfl : f = 4 := Option.some.inj ((show Tryd.prog.funcNamed "bailiwick/bailiwicklaw05.RipemdBlocks" = some 4 by kernel_rfl).symm.trans hf) |>.symm
      obtain rfl : fn = Tryd.f4 := (Option.some.inj (Tryd.func4.symm.trans hfn)).symm
      exact ⟨by kernel_rfl, fun j t ht => by
        rw [Tryd.params4] at ht
        have hm : t ∈ [28, 22] := by simpa using Array.mem_of_getElem? ht
        have hall : ([28, 22].all fun u => !Tryd.prog.wantsStandIn u) = true := by kernel_rfl
        exact (show Tryd.prog.wantsStandIn t = false by simpa using List.all_eq_true.1 hall t hm)⟩)
    (by kernel_rfl)
end Go.Vm.C05

namespace Go.Proofs.YtmanmhalbfbdmaaDoor
theorem ripemdBlocks_card_holds : Rows.RipemdBlocksCardSaid := Go.Vm.C05.ripemdBlocks_card
end Go.Proofs.YtmanmhalbfbdmaaDoor

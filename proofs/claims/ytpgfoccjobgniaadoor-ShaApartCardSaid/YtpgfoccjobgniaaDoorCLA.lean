/- For every two lists of bytes, each as long as a machine holds, and every byte the law ShaApart answers true: two digests know nothing of one another, and asking one changes nothing. -/
import Derived.Test.YtpgfoccjobgniaaDoorCP
import Derived.Test.YtpgfoccjobgniaaDoorCK
namespace Go.Vm.C04
open Go Go.Proofs Go.Proofs.YtpgfoccjobgniaaDoor Go.ChangeShapes Go.WideShapes Go.ChangeAt Go.RowKit
set_option linter.unusedVariables false
set_option linter.unusedSimpArgs false
set_option maxRecDepth 100000
set_option maxHeartbeats 8000000

theorem shaApart_lifted (os : Os) (started : os.Started) (H : Type) (enc : TypeId × Value → H) :
    ReturnsInHanded {} Tryd.checked os 4 .any (fun w args => (Rows.shaApartSpec.pre enc Tryd.prog Tryd.f4 [] false w args ∧ laidMetH Tryd.prog laid3 w) ∧ sizedMet enc Tryd.prog Tryd.f4 (OpenSpec.ofChange Rows.shaApartSpec) false w args)
      (Rows.shaApartSpec.post enc Tryd.prog Tryd.f4 false true false false) := by
  refine returnsInHanded_of_change_and (C := Tryd.checked) (X := fun w _ => laidMetH Tryd.prog laid3 w) (fun _ _ _ hh h => h.of_heap hh) own started (by kernel_rfl) Tryd.func4
    (ChangeSpec.witness_shaped (enc := enc) (C := Tryd.checked) (os := os) (X := fun w _ => laidMetH Tryd.prog laid3 w) false (World.doorLaid Tryd.prog 48 os) #[.slice none 0 0, .slice none 0 0, .int .u8 0] 8 rfl (World.shaped_of_RefB (by kernel_rfl) (by kernel_rfl)) (by kernel_rfl) (by kernel_rfl) (by kernel_rfl) (door_met os _)) ?_
  intro W base args ds gs before hval0 hW hcnd hsz hL hholds
  have hval : ∀ (j : Nat) t v, Tryd.f4.params[j]? = some t → args[j]? = some v → Value.okWide Tryd.prog W .any base t v := hval0
  have hW' := hW
  obtain ⟨p, q, hA0, hV, rfl, hfz, hnd⟩ := hW
  have hA : DataW.TrodAll enc Tryd.prog W 0 (fun _ => true) true Tryd.f4.params.toList args.toList ds p := hA0
  rw [Tryd.params4] at hA hval
  obtain ⟨v0, vs0, d0, ds0, p0, q0, hargs, rfl, rfl, h0, r0⟩ := trodAll_cons hA
  obtain ⟨v1, vs1, d1, ds1, p1, q1, rfl, rfl, rfl, h1, r1⟩ := trodAll_cons r0
  obtain ⟨v2, vs2, d2, ds2, p2, q2, rfl, rfl, rfl, h2, r2⟩ := trodAll_cons r1
  obtain ⟨rfl, rfl, rfl⟩ := trodAll_nil r2
  obtain rfl : args = #[v0, v1, v2] := by cases args; simp_all
  obtain ⟨rfl, rfl⟩ := trodVars_none hV
  have k0 := h0
  have lt0 : ∀ x ∈ p0, x.block < W.heap.size := by obtain ⟨m, hm⟩ := k0; exact DataW.trod_lt m _ _ _ hm
  obtain ⟨ad0, len0, cap0, rfl⟩ := okWide_slice Tryd.underlying22 (hval 0 22 v0 rfl rfl)
  obtain ⟨fu0, hf0⟩ := h0
  have B0 := reach_len (P := Tryd.prog) hsz (j := 0) (t := 22) (e := 5) (d := d0) (by rw [Tryd.params4]; rfl) rfl t22 Tryd.underlying22 (by rw [show Tryd.prog.bytesOf 5 = 1 by kernel_rfl]; decide) hf0
  rw [show Tryd.prog.bytesOf 5 = 1 by kernel_rfl] at B0
  have C0 : len0 ≤ 140737488351232 := by simp only [reachBytes] at B0; omega
  obtain ⟨a0, l0, R0⟩ := open_slu (w := W) t22 (by unfold okW; omega) hf0 (by simp only [LIM]; omega)
  have k1 := h1
  have lt1 : ∀ x ∈ p1, x.block < W.heap.size := by obtain ⟨m, hm⟩ := k1; exact DataW.trod_lt m _ _ _ hm
  obtain ⟨ad1, len1, cap1, rfl⟩ := okWide_slice Tryd.underlying22 (hval 1 22 v1 rfl rfl)
  obtain ⟨fu1, hf1⟩ := h1
  have B1 := reach_len (P := Tryd.prog) hsz (j := 1) (t := 22) (e := 5) (d := d1) (by rw [Tryd.params4]; rfl) rfl t22 Tryd.underlying22 (by rw [show Tryd.prog.bytesOf 5 = 1 by kernel_rfl]; decide) hf1
  rw [show Tryd.prog.bytesOf 5 = 1 by kernel_rfl] at B1
  have C1 : len1 ≤ 140737488351232 := by simp only [reachBytes] at B1; omega
  obtain ⟨a1, l1, R1⟩ := open_slu (w := W) t22 (by unfold okW; omega) hf1 (by simp only [LIM]; omega)
  have k2 := h2
  have lt2 : ∀ x ∈ p2, x.block < W.heap.size := by obtain ⟨m, hm⟩ := k2; exact DataW.trod_lt m _ _ _ hm
  obtain ⟨n2, rfl⟩ := okWide_int Tryd.underlying5 (hval 2 5 v2 rfl rfl)
  obtain ⟨fu2, hf2⟩ := h2
  obtain ⟨x2, o2, R2⟩ := open1 (c := c0 W) (w' := W) t5 rfl hf2
  obtain ⟨a2, rfl⟩ := o2
  clear hA0 hval0
  refine (law_calls (vs := [.slice ad0 len0 cap0, .slice ad1 len1 cap1, .int _ n2]) apart_sound Tryd.func4 rfl (by decide) (ins := [.sl false (.u 8 a0), .sl false (.u 8 a1), .u 8 a2]) (chk_ok (by omega)) ⟨⟨rfl, R0⟩, ⟨rfl, R1⟩, ⟨rfl, R2⟩, trivial⟩ (globs hL)).mono fun e W' ⟨he, bel⟩ => ?_
  subst he
  exact ⟨_, rfl, _, _, _, [], _, [], hW', trodAll_mk1 (shut_bool Tryd.underlying4 _), (trodAll_cons_mk (Below.trod laidOut (by kernel_rfl) (of_decide_eq_true (by kernel_rfl)) k0 bel lt0) (trodAll_cons_mk (Below.trod laidOut (by kernel_rfl) (of_decide_eq_true (by kernel_rfl)) k1 bel lt1) (trodAll_cons_mk (Below.trod laidOut (by kernel_rfl) (of_decide_eq_true (by kernel_rfl)) k2 bel lt2) trodAll_mk0))), rfl, bel.frame _, fun h => by cases h⟩

theorem shaApart_over : Rows.ShaApartSaid :=
  OpenClaim.holds_of_wide 4 Tryd.f4 rfl rfl rfl rfl rfl rfl rfl ⟨rfl, rfl, rfl, rfl, rfl⟩ rfl rfl rfl rfl rfl (by kernel_rfl) Tryd.func4 (by kernel_rfl)
    (of_decide_eq_true (by kernel_rfl)) (by unfold Func.isWrapper; first | (rw [if_pos (by decide +kernel)]; kernel_rfl) | (rw [if_neg (by decide +kernel)]; exact ⟨rfl, rfl⟩))
    (fun os started H enc _ => shaApart_lifted os started H enc)

theorem shaApart_card : Rows.ShaApartCardSaid :=
  Claim7.holds_tied_plain_at .later [] [.data, .data] true (true, "cd7721875c366cfb2477a24d90cbdfec1a27c95ce44e9092eb531c4360b7f0bc") false
    shaApart_over (fun _ h => by cases h) (by kernel_rfl) (fun _ h => by cases h) shaApart_row_tie rfl ⟨rfl, rfl⟩ (by kernel_rfl) rfl
    (fun f fn hf hfn => by
      obtain rfl : f = 4 := Option.some.inj ((show Tryd.prog.funcNamed "bailiwick/bailiwicklaw04.ShaApart" = some 4 by kernel_rfl).symm.trans hf) |>.symm
      obtain rfl : fn = Tryd.f4 := (Option.some.inj (Tryd.func4.symm.trans hfn)).symm
      exact ⟨by kernel_rfl, fun j t ht => by
        rw [Tryd.params4] at ht
        have hm : t ∈ [22, 22, 5] := by simpa using Array.mem_of_getElem? ht
        have hall : ([22, 22, 5].all fun u => !Tryd.prog.wantsStandIn u) = true := by kernel_rfl
        exact (show Tryd.prog.wantsStandIn t = false by simpa using List.all_eq_true.1 hall t hm)⟩)
    (by kernel_rfl)
end Go.Vm.C04

namespace Go.Proofs.YtpgfoccjobgniaaDoor
theorem shaApart_card_holds : Rows.ShaApartCardSaid := Go.Vm.C04.shaApart_card
end Go.Proofs.YtpgfoccjobgniaaDoor

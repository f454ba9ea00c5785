/- For every word, all bytes and every text the law WordTexts answers true: bytes and digits are the document's, and come back as they were. -/
import Derived.Test.YthjgpkaamgoodaaCDG
namespace Go.Vm.C01
open Go Go.Proofs Go.Proofs.Ythjgpkaamgoodaa Go.ChangeShapes Go.WideShapes Go.ChangeAt Go.RowKit
set_option linter.unusedVariables false
set_option linter.unusedSimpArgs false
set_option maxRecDepth 100000
set_option maxHeartbeats 8000000

theorem wordTexts_lifted (os : Os) (started : os.Started) (H : Type) (enc : TypeId × Value → H) :
    ReturnsInHanded {} Try.checked os 10 .any (Rows.wordTextsSpec.pre6 enc Try.prog Try.f10 Rows.wordTextsRow.domain false)
      (Rows.wordTextsSpec.post enc Try.prog Try.f10 false true false false) := by
  refine returnsInHanded_of_change_sized (C := Try.checked) own started (by kernel_rfl) Try.func10
    (ChangeSpec.witness6 (enc := enc) (C := Try.checked) false ⟨#[], #[.agg (Array.replicate 4 (.int .u64 0)), .slice none 0 0, .string ByteArray.empty], []⟩ 8 (by kernel_rfl) (by kernel_rfl) (by kernel_rfl) (by kernel_rfl)) ?_
  intro W base args ds gs before hval0 hW hcnd hsz hholds
  have hval : ∀ (j : Nat) t v, Try.f10.params[j]? = some t → args[j]? = some v → Value.okWide Try.prog W .any base t v := hval0
  have hW' := hW
  obtain ⟨p, q, hA0, hV, rfl, hfz, hnd⟩ := hW
  have hA : DataW.TrodAll enc Try.prog W 0 (fun _ => true) true Try.f10.params.toList args.toList ds p := hA0
  rw [Try.params10] at hA hval
  obtain ⟨v0, vs0, d0, ds0, p0, q0, hargs, rfl, rfl, h0, r0⟩ := trodAll_cons hA
  obtain ⟨v1, vs1, d1, ds1, p1, q1, rfl, rfl, rfl, h1, r1⟩ := trodAll_cons r0
  obtain ⟨v2, vs2, d2, ds2, p2, q2, rfl, rfl, rfl, h2, r2⟩ := trodAll_cons r1
  obtain ⟨rfl, rfl, rfl⟩ := trodAll_nil r2
  obtain rfl : args = #[v0, v1, v2] := by cases args; simp_all
  obtain ⟨rfl, rfl⟩ := trodVars_none hV
  have k0 := h0
  have lt0 : ∀ x ∈ p0, x.block < W.heap.size := by obtain ⟨m, hm⟩ := k0; exact DataW.trod_lt m _ _ _ hm
  obtain ⟨cs0, rfl, _⟩ := okWide_arr Try.underlying24 (hval 0 24 v0 rfl rfl)
  obtain ⟨fu0, hf0⟩ := h0
  obtain ⟨x0, o0, R0⟩ := open1 (c := c0 W) (w' := W) t24 rfl hf0
  obtain ⟨a0, l0, rfl⟩ : ∃ xs : List (BitVec 64), xs.length = 4 ∧ x0 = .agg 4 (.u 64 xs) := o0
  have k1 := h1
  have lt1 : ∀ x ∈ p1, x.block < W.heap.size := by obtain ⟨m, hm⟩ := k1; exact DataW.trod_lt m _ _ _ hm
  obtain ⟨ad1, len1, cap1, rfl⟩ := okWide_slice Try.underlying34 (hval 1 34 v1 rfl rfl)
  obtain ⟨fu1, hf1⟩ := h1
  have B1 := reach_len (P := Try.prog) hsz (j := 1) (t := 34) (e := 5) (d := d1) (by rw [Try.params10]; rfl) rfl t34 Try.underlying34 (by rw [show Try.prog.bytesOf 5 = 1 by kernel_rfl]; decide) hf1
  rw [show Try.prog.bytesOf 5 = 1 by kernel_rfl] at B1
  have C1 : len1 ≤ 140737488351232 := by simp only [reachBytes] at B1; omega
  obtain ⟨a1, l1, R1⟩ := open_slu (w := W) t34 (by unfold okW; omega) hf1 (by simp only [LIM]; omega)
  have k2 := h2
  have lt2 : ∀ x ∈ p2, x.block < W.heap.size := by obtain ⟨m, hm⟩ := k2; exact DataW.trod_lt m _ _ _ hm
  obtain ⟨s2, rfl⟩ := okWide_string Try.underlying9 (hval 2 9 v2 rfl rfl)
  obtain ⟨fu2, hf2⟩ := h2
  obtain ⟨t2s, ht2, hx2, _⟩ := DataW.trod_string Try.underlying9 hf2
  obtain rfl : s2 = t2s := by cases ht2; rfl
  obtain ⟨rfl, _⟩ := Prod.mk.inj hx2
  have B2 := sized_string hsz (j := 2) (t := 9) (by rw [Try.params10]; rfl) rfl
  have C2 : (bytesOf s2).length ≤ 140737488351232 := by rw [bytesOf_len]; simp only [reachBytes, Array.length_toList] at B2; exact B2
  have R2 : FRel (c0 W) W (.s (bytesOf s2)) [.string s2] := ⟨s2, rfl, rfl, by simp only [LIM]; omega⟩
  clear hA0 hval0
  refine (law_calls (vs := [.agg cs0, .slice ad1 len1 cap1, .string s2]) texts_sound Try.func10 rfl (by decide) (ins := [.agg 4 (.u 64 a0), .sl false (.u 8 a1), .s (bytesOf s2)]) (chk_ok ⟨l0, by omega, by omega⟩) ⟨⟨rfl, _, rfl, R0⟩, ⟨rfl, R1⟩, ⟨rfl, R2⟩, trivial⟩ (fun _ _ h => by cases h)).mono fun e W' ⟨he, bel⟩ => ?_
  subst he
  exact ⟨_, rfl, _, _, _, [], _, [], hW', trodAll_mk1 (shut_bool Try.underlying4 _), (trodAll_cons_mk (Below.trod laidOut (by kernel_rfl) (of_decide_eq_true (by kernel_rfl)) k0 bel lt0) (trodAll_cons_mk (Below.trod laidOut (by kernel_rfl) (of_decide_eq_true (by kernel_rfl)) k1 bel lt1) (trodAll_cons_mk (Below.trod laidOut (by kernel_rfl) (of_decide_eq_true (by kernel_rfl)) k2 bel lt2) trodAll_mk0))), rfl, bel.frame _, fun h => by cases h⟩

theorem wordTexts_over : Rows.WordTextsSaid :=
  OpenClaim.holds_of_wide 10 Try.f10 rfl rfl rfl rfl rfl rfl rfl ⟨rfl, rfl, rfl, rfl, rfl⟩ rfl rfl rfl rfl rfl (by kernel_rfl) Try.func10 (by kernel_rfl)
    (of_decide_eq_true (by kernel_rfl)) (by unfold Func.isWrapper; first | (rw [if_pos (by decide +kernel)]; kernel_rfl) | (rw [if_neg (by decide +kernel)]; exact ⟨rfl, rfl⟩))
    (fun os started H enc _ => wordTexts_lifted os started H enc)
end Go.Vm.C01

namespace Go.Proofs.Ythjgpkaamgoodaa
theorem wordTexts_over_holds : Rows.WordTextsSaid := Go.Vm.C01.wordTexts_over
end Go.Proofs.Ythjgpkaamgoodaa

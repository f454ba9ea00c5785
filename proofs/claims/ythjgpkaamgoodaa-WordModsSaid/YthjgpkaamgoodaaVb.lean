/- The abstract machine by which the walks of this claim are made: part 2 of 4. Nothing in it speaks of a program. -/
import Derived.Test.YthjgpkaamgoodaaVa
import Derived.Great.FillDense
import Derived.Deep.AppendSrc
import Derived.Deep.OwnRows
import Derived.Deep.DeepAppendWide
import Derived.Lib.ConvBytes
/- The operations on memory. -/
namespace Go.Vm
open Go
set_option linter.unusedVariables false

section
variable {gl : Nat → Option Row} {w0 : World} {ext : Nat → Nat → Prop} {av : Nat → Prop} {φ : Nat → Option Nat} {st st' : St} {a : Act} {w : World} {P : Program} {Γ : Ctx}

theorem ptr_cells (h : Rel gl w0 ext av φ st a w) {k f o i : Nat} {x s : V} {u : Value} (hm : st.mem k = some x) (hs : subV x f o = some s) (hv : VRel (cxOf φ st.mem av w0.heap.size) w (.p k f o i) u) :
    ∃ b cur e pre mid post, φ k = some b ∧ u = .pointer (some ⟨b, o + i, none⟩) ∧ w.heap[b]? = some (.cells cur e (0, 0)) ∧ cur.toList = pre ++ mid ++ post ∧ pre.length = o ∧
      CRel (cxOf φ st.mem av w0.heap.size) w mid s ∧ (∀ j u, mid[j]? = some u → w.cell? ⟨b, o + j, none⟩ = some u) ∧
      (f ≠ 0 → (∀ r, s ≠ .row r) ∧ (∀ gs, s ≠ .st gs)) ∧
      (∀ s' mid', CRel (cxOf φ st.mem av w0.heap.size) w mid' s' → mid'.length = mid.length → (f ≠ 0 → (∀ gs, s' ≠ .st gs) ∧ (∀ r, s' ≠ .row r)) → CRel (cxOf φ st.mem av w0.heap.size) w (pre ++ mid' ++ post) (putSub x f s')) := by
  obtain ⟨b, f1, rfl⟩ := inv_p hv
  have hrow : ∀ r, x = .row r → f = 0 := by
    intro r hr
    subst hr
    by_cases hf : f = 0
    · exact hf
    · simp [subV, hf] at hs
  rcases h.mem k _ hm with ⟨b', cur, e, e1, e2, e3⟩ | ⟨e1, _⟩
  · have hbb : b' = b := by have := e1.symm.trans f1; simpa using this
    subst hbb
    obtain ⟨pre, mid, post, hc, hp, hmid, hnf, hput⟩ := sub_cells e3 hs hrow
    refine ⟨b', cur, e, pre, mid, post, f1, rfl, e2, hc, hp, hmid, ?_, hnf, hput⟩
    intro j u hu
    rw [cells_get e2, hc, List.append_assoc, List.getElem?_append_right (by omega), ← hp, Nat.add_sub_cancel_left, List.getElem?_append_left (List.getElem?_eq_some_iff.1 hu).1]
    exact hu
  · have := e1.symm.trans f1; cases this

theorem room_cells (h : Rel gl w0 ext av φ st a w) {k f o : Nat} {x s : V} {b : Nat} (hm : st.mem k = some x) (hs : subV x f o = some s) (hb : φ k = some b) :
    ∃ cur e fr, w.heap[b]? = some (.cells cur e fr) ∧ o + roomV s ≤ cur.size := by
  have hrow : ∀ r, x = .row r → f = 0 := by
    intro r hr
    subst hr
    by_cases hf : f = 0
    · exact hf
    · simp [subV, hf] at hs
  rcases h.mem k _ hm with ⟨b', cur, e, e1, e2, e3⟩ | ⟨e1, _⟩
  · have hbb : b' = b := by have := e1.symm.trans hb; simpa using this
    subst hbb
    obtain ⟨pre, mid, post, hc, hp, hmid, hnf, hput⟩ := sub_cells e3 hs hrow
    refine ⟨cur, e, (0, 0), e2, ?_⟩
    have hl : cur.size = pre.length + mid.length + post.length := by rw [← Array.length_toList, hc]; simp [Nat.add_assoc]
    have : roomV s ≤ mid.length := by
      cases s with
      | agg n q =>
        obtain ⟨q1, q2, q3, q4⟩ := FRel_agg (show FRel (cxOf φ st.mem av w0.heap.size) w (.agg n q) mid from hmid)
        have := rowVals_len q1
        simp only [roomV]; omega
      | row q =>
        obtain ⟨vs, spare, q1, q2⟩ := hmid
        have := rowVals_len q2
        simp only [roomV, q1, List.length_append]; omega
      | _ => exact Nat.zero_le _
    omega
  · have := e1.symm.trans hb; cases this

theorem rdAt_sound (hty : Γ.ty = tyOf P 8) (h : Rel gl w0 ext av φ st a w) {ks : List Nat} {t : Nat} {x v : V} {u1 : Value} (hx : rdAt Γ (restr ks st.mem) t x = some v)
    (hv : VRel (cxOf φ st.mem av w0.heap.size) w x u1) : ∃ u, (Instr.loadAt t u1).run P w = .ok u w ∧ VRel (cxOf φ st.mem av w0.heap.size) w v u := by
  unfold rdAt at hx
  cases hq : Γ.ty t with
  | none => rw [hq] at hx; cases hx
  | some ty =>
    rw [hq] at hx
    rw [hty] at hq
    dsimp only at hx
    split at hx
    · rename_i x k f o i
      cases hm : restr ks st.mem k with
      | none => rw [hm] at hx; cases hx
      | some y =>
        rw [hm] at hx
        dsimp only at hx
        cases hs : subV y f o with
        | none => rw [hs] at hx; cases hx
        | some s =>
          rw [hs] at hx
          obtain ⟨b, cur, e, pre, mid, post, f1, rfl, e2, hc, hp, hmid, hcell, _, _⟩ := ptr_cells h (restr_some hm) hs hv
          obtain ⟨u, k1, k2⟩ := rd_sound hq hmid hx hcell
          exact ⟨u, by simp [Instr.loadAt, Instr.sureAddr, k1], k2⟩
    · rename_i x r i
      obtain ⟨b, off, rfl, hrow⟩ := inv_rp hv
      have run : ∀ {u : Value} {j : Nat}, (loadVar t ⟨b, off + j, none⟩).run P w = .ok u w → j = i * r.esz → (Instr.loadAt t (.pointer (some ⟨b, off + i * r.esz, none⟩))).run P w = .ok u w := by
        intro u j hu e
        subst e
        simp [Instr.loadAt, Instr.sureAddr, hu]
      have flat : ty.flat = true → i < r.len → r.esz = 1 → r.get i = some v → ∃ u, (Instr.loadAt t (.pointer (some ⟨b, off + i * r.esz, none⟩))).run P w = .ok u w ∧ VRel (cxOf φ st.mem av w0.heap.size) w v u := by
        intro hf g1 g2 g3
        obtain ⟨vs, q1, q2⟩ := rowAt_vals hrow g2
        obtain ⟨u, k1, k2, k3⟩ := rowVals_get q1 g1 g3
        exact ⟨u, run (load_flat hq hf (q2 i u k1).2) (by rw [g2]; simp), k2⟩
      split at hx
      · rename_i m e
        obtain ⟨⟨g1, g2, g3⟩, g4⟩ := chk_some hx
        cases g4
        obtain ⟨vs, q1, q2⟩ := rowAt_vals hrow g2
        have hlen := rowVals_len q1
        refine ⟨.agg ((vs.drop i).take (m * e.size)).toArray, run (j := i) (load_agg hq rfl (by simp [Ty.size]; omega) ?_) (by rw [g2]; simp), _, rfl, ?_⟩
        · intro j u hu
          rw [List.getElem?_take] at hu
          split at hu
          · rw [List.getElem?_drop] at hu
            rw [addr_add, Nat.add_assoc]
            exact (q2 _ u hu).2
          · cases hu
        · refine agg_of_vals (rowVals_sub q1 i _) (Row.sub_len _ _ _ (by omega)) (Row.sub_kind i _ ?_)
          cases r <;> first | exact .inl ⟨_, _, rfl⟩ | exact .inr ⟨_, rfl⟩ | (simp [isNum] at g3)
      · rename_i ts
        obtain ⟨⟨g1, g2, g3⟩, g4⟩ := chk_some hx
        cases r with
        | a xs =>
          cases g4
          have hlt : i < xs.length := g1
          have hr := hrow i xs[i] (List.getElem?_eq_getElem hlt)
          obtain ⟨r1, r2, r3, r4, v3, r5, r6⟩ := hr
          have hgd : xs.getD i default = xs[i] := by simp [List.getD, hlt]
          have e3 : i * (Row.a xs).esz = 3 * i := by simp [Row.esz, Nat.mul_comm]
          refine ⟨.agg #[ii xs[i].1, ii xs[i].2.1, v3], run (j := 3 * i) (load_agg (vs := [ii xs[i].1, ii xs[i].2.1, v3]) hq rfl (by simp [Ty.size, g2]) ?_) e3.symm, _, [[ii xs[i].1], [ii xs[i].2.1], [v3]], rfl, rfl, ?_⟩
          · intro j u hu
            match j, hu with
            | 0, hu => simp at hu; subst hu; rw [addr_add]; exact r1.2
            | 1, hu => simp at hu; subst hu; rw [addr_add]; exact r3.2
            | 2, hu => simp at hu; subst hu; rw [addr_add]; exact r5.2
            | j + 3, hu => simp at hu
          · rw [hgd]
            refine ⟨⟨r2, rfl⟩, ⟨r4, rfl⟩, ⟨v3, rfl, ?_⟩, trivial⟩
            obtain ⟨a', len, cap, s1, s2, s3, s4, s5⟩ := r6
            refine ⟨a', len, cap, s1, s2, s3, s4, .inl rfl, ?_⟩
            rcases s5 with s5 | ⟨blk, off', s6, s7⟩
            · exact .inl s5
            · exact .inr ⟨blk, off', s6, .inl rfl, fun j y hy => s7 j y hy⟩
        | _ => simp [Row.esz] at g3
      · rename_i hn1 hn2
        obtain ⟨⟨g1, g2⟩, g3⟩ := chk_some hx
        refine flat ?_ g1 g2 g3
        cases ty <;> first | rfl | exact (hn1 _ _ rfl).elim | exact (hn2 _ rfl).elim
    · cases hx

theorem splL_mid {α : Type} (pre mid post : List α) (i : Nat) (vs : List α) (h : i + vs.length ≤ mid.length) : splL (pre ++ mid ++ post) (pre.length + i) vs = pre ++ splL mid i vs ++ post := by
  rw [splL_append _ _ _ _ (by simp; omega)]
  congr 1
  simp only [splL]
  rw [List.take_append, List.drop_append]
  simp [Nat.add_assoc, List.take_of_length_le, List.drop_eq_nil_of_le]

theorem store_runs (hty : Γ.ty = tyOf P 8) (h : Rel gl w0 ext av φ st a w) {o : Oper} {t k f off i : Nat} {x s s' v : V} {u1 u2 : Value} {ty : Ty} {ad vl : Operand}
    (ho : o.op = .store t ad vl) (ha : a.eval ad = u1) (hvl : a.eval vl = u2)
    (hm : st.mem k = some x) (hs : subV x f off = some s) (hq : Γ.ty t = some ty) (hsz : ty.size = v.vlen) (hw : wr s i v = some s')
    (hst : st.after o.dst { v := .any, upd := [(k, putSub x f s')] } = some st')
    (hv1 : VRel (cxOf φ st.mem av w0.heap.size) w (.p k f off i) u1) (hv2 : VRel (cxOf φ st.mem av w0.heap.size) w v u2) : Runs P gl w0 ext av st' o a w := by
  rw [hty] at hq
  obtain ⟨b, cur, e, pre, mid, post, f1, rfl, e2, hc, hp, hmid, hcell, hnf, hput⟩ := ptr_cells h hm hs hv1
  obtain ⟨k1, k2, k3, k4, k5⟩ := wr_sound hmid hw hv2
  have hfit : off + i + 0 + u2.cells.toList.length ≤ cur.size := by
    rw [← Array.length_toList, hc]
    simp only [List.length_append]
    omega
  have hrun := run_storeCells_at P b (off + i) e u2.cells.toList 0 cur w e2 hfit k1
  have hsize : u2.cells.size = ty.size := by rw [hsz, ← k2]; simp
  refine ⟨φ, undef, w.setRow b (splL cur.toList (off + i) u2.cells.toList).toArray, .inr ⟨?_, rfl⟩, ?_⟩
  · simp only [execOp, ho, ha, hvl, Instr.storeAt, Instr.sureAddr, Sem.run_bind, Sem.run_pure, Result.andThen_ok, storeVar, sizeOf_run hq, hsize, ne_eq, not_true_eq_false, if_false]
    simp only [Nat.add_zero] at hrun
    rw [hrun]
    simp [splL, Nat.add_assoc]
  · have hl : (splL cur.toList (off + i) u2.cells.toList).length = cur.toList.length := splL_len _ _ _ (by simpa using hfit)
    refine h.after_upd hst (fun j hj => by cases hj) hm f1 e2 (setRow_heap w b cur _ e _ e2) (by simpa using hl) (fun j hj => setRow_other w b j _ hj) rfl rfl rfl (by simp) ?_ (fun hd => ?_)
    · intro c' hmono hφ
      have : (splL cur.toList (off + i) u2.cells.toList) = pre ++ splL mid i u2.cells.toList ++ post := by
        rw [hc, ← hp]
        exact splL_mid _ _ _ _ _ k3
      have hC := CRel_mono hmono (fun j _ => by rw [hφ]; rfl) (hput s' _ k4 (splL_len _ _ _ k3) (fun hf => ⟨(k5 (hnf hf).1 (hnf hf).2).2, (k5 (hnf hf).1 (hnf hf).2).1⟩))
      rw [← this] at hC
      exact hC
    · intro c' _ _; trivial

/-! ### new objects -/

theorem zcell_flat {c : Cx} {w : World} {ty : Ty} {z : Value} {v : V} (h : zcell ty = some z) (hv : ty.zero1 = some v) (hf : ty.flat = true) : FRel c w v [z] ∧ v.keys1 = [] ∧ v.keys = [] := by
  cases ty with
  | b => cases h; cases hv; exact ⟨rfl, rfl, rfl⟩
  | u wd =>
    cases h
    obtain ⟨g1, g2⟩ := chk_some hv
    cases g2
    exact ⟨⟨okU_iff.1 g1, by simp [ic]⟩, rfl, rfl⟩
  | i => cases h; cases hv; exact ⟨⟨by unfold inR; omega, rfl⟩, rfl, rfl⟩
  | s => cases h; cases hv; exact ⟨⟨_, rfl, rfl, by simp [LIM]⟩, rfl, rfl⟩
  | sl e => cases h; cases hv; exact ⟨rfl, rfl, rfl⟩
  | p => cases h; cases hv; exact ⟨rfl, rfl, rfl⟩
  | _ => cases h

theorem zero1_sound {c : Cx} {w : World} {ty : Ty} {l : List Value} {v : V} (h : zcells1 ty = some l) (hv : ty.zero1 = some v) : FRel c w v l ∧ v.keys1 = [] ∧ v.keys = [] := by
  cases ty with
  | arr n e =>
    simp only [zcells1, Option.map_eq_some_iff] at h
    obtain ⟨z, h1, rfl⟩ := h
    simp only [Ty.zero1] at hv
    cases hr : e.root with
    | u wd =>
      rw [hr] at hv h1
      obtain ⟨g1, g2⟩ := chk_some hv
      cases g2
      cases h1
      exact ⟨⟨okU_iff.1 g1, by simp [zeros], by simp [zeros, ic]⟩, rfl, rfl⟩
    | i =>
      rw [hr] at hv h1
      cases hv
      cases h1
      refine ⟨⟨by simp [zeroI], by simp [zeroI, ii], fun x hx => ?_⟩, rfl, rfl⟩
      simp [zeroI] at hx
      rw [hx.2]; unfold inR; omega
    | _ => rw [hr] at hv; cases hv
  | st ts => cases h
  | o => cases h
  | b => cases h; exact zcell_flat rfl hv rfl
  | u wd => cases h; exact zcell_flat rfl hv rfl
  | i => cases h; exact zcell_flat rfl hv rfl
  | s => cases h; exact zcell_flat rfl hv rfl
  | sl e => cases h; exact zcell_flat rfl hv rfl
  | p => cases h; exact zcell_flat rfl hv rfl

theorem zeroL_sound {c : Cx} {w : World} : ∀ {ts : List Ty} {l : List Value} {fs : List V}, zcellsL ts = some l → mapO Ty.zero1 ts = some fs → ∃ css, l = css.flatten ∧ All2 (FRel c w) fs css ∧ fs.flatMap V.keys1 = []
  | [], l, fs, h, hv => by cases h; cases hv; exact ⟨[], rfl, trivial, rfl⟩
  | t :: ts, l, fs, h, hv => by
    simp only [zcellsL] at h
    simp only [mapO] at hv
    cases h1 : zcells1 t with
    | none => rw [h1] at h; cases h
    | some a =>
      rw [h1] at h
      cases h2 : zcellsL ts with
      | none => rw [h2] at h; cases h
      | some b =>
        rw [h2] at h
        cases h
        cases h3 : Ty.zero1 t with
        | none => rw [h3] at hv; cases hv
        | some v =>
          rw [h3] at hv
          cases h4 : mapO Ty.zero1 ts with
          | none => rw [h4] at hv; cases hv
          | some vs =>
            rw [h4] at hv
            cases hv
            obtain ⟨css, k1, k2, k3⟩ := zeroL_sound h2 h4
            obtain ⟨j1, j2, j3⟩ := zero1_sound (c := c) (w := w) h1 h3
            exact ⟨a :: css, by simp [k1], ⟨j1, k2⟩, by simp [j2, k3]⟩

/-- the zero value of a type, as cells -/
theorem zero_sound {c : Cx} {w : World} {ty : Ty} {z : Option Value} {v : V} (hz : zeroFits z ty = true) (hv : ty.zero = some v) : ∃ u, z = some u ∧ CRel c w u.cells.toList v ∧ VRel c w v u ∧ v.keys = [] := by
  have agg : ∀ {u : Value}, (isAggV u == true) = true → ∃ cs, u = .agg cs := by
    intro u hu
    cases u <;> first | exact ⟨_, rfl⟩ | cases hu
  have nagg : ∀ {u : Value}, (isAggV u == false) = true → u.cells.toList = [u] := by
    intro u hu
    cases u <;> first | rfl | cases hu
  cases ty with
  | st ts =>
    simp only [Ty.zero, Option.map_eq_some_iff] at hv
    obtain ⟨fs, hm, rfl⟩ := hv
    unfold zeroFits at hz
    simp only [zcells] at hz
    cases hl : zcellsL ts with
    | none =>
      exfalso
      -- every zero value has cells
      have : ∀ {ts : List Ty} {fs : List V}, mapO Ty.zero1 ts = some fs → zcellsL ts ≠ none := by
        intro ts
        induction ts with
        | nil => intro fs _; simp [zcellsL]
        | cons t ts ih =>
          intro fs hm
          simp only [mapO] at hm
          cases h3 : Ty.zero1 t with
          | none => rw [h3] at hm; cases hm
          | some v =>
            rw [h3] at hm
            cases h4 : mapO Ty.zero1 ts with
            | none => rw [h4] at hm; cases hm
            | some vs =>
              have h1 : ∃ a, zcells1 t = some a := by
                cases t with
                | arr n e => simp only [Ty.zero1] at h3; cases hr : e.root <;> rw [hr] at h3 <;> first | (cases h3; done) | exact ⟨_, by simp [zcells1, hr, zcell]; rfl⟩
                | st _ => cases h3
                | o => cases h3
                | _ => exact ⟨_, rfl⟩
              obtain ⟨a, ha⟩ := h1
              simp only [zcellsL, ha]
              cases h5 : zcellsL ts with
              | none => exact absurd h5 (ih h4)
              | some b => simp
      exact this hm hl
    | some l =>
      rw [hl] at hz
      cases z with
      | none => cases hz
      | some u =>
        simp only [Bool.and_eq_true] at hz
        obtain ⟨cs, rfl⟩ := agg hz.2
        obtain ⟨css, k1, k2, k3⟩ := zeroL_sound (c := c) (w := w) hl hm
        have e := sameL_eq hz.1
        exact ⟨_, rfl, ⟨css, e.trans k1, k2⟩, ⟨cs, css, rfl, e.trans k1, k2⟩, k3⟩
  | arr n e =>
    unfold zeroFits at hz
    cases hl : zcells1 (.arr n e) with
    | none =>
      exfalso
      simp only [Ty.zero, Ty.zero1] at hv
      cases hr : e.root <;> rw [hr] at hv <;> first | (cases hv; done) | (simp [zcells1, hr, zcell] at hl)
    | some l =>
      simp only [zcells, hl] at hz
      cases z with
      | none => cases hz
      | some u =>
        simp only [Bool.and_eq_true] at hz
        obtain ⟨cs, rfl⟩ := agg hz.2
        obtain ⟨k1, k2, k3⟩ := zero1_sound (c := c) (w := w) hl hv
        have e2 := sameL_eq hz.1
        have hva : ∃ r, v = .agg (n * e.size) r := by
          simp only [Ty.zero, Ty.zero1] at hv
          cases hr : e.root <;> rw [hr] at hv <;> first | (cases hv; done) | (have := (chk_some hv).2; cases this; exact ⟨_, rfl⟩) | (cases hv; exact ⟨_, rfl⟩)
        obtain ⟨r, rfl⟩ := hva
        have hF : FRel c w (.agg (n * e.size) r) cs.toList := by rw [show cs.toList = l from e2]; exact k1
        exact ⟨_, rfl, hF, ⟨cs, rfl, hF⟩, k3⟩
  | _ =>
    unfold zeroFits at hz
    simp only [zcells] at hz
    cases hl : zcells1 _ with
    | none => rw [hl] at hz; first | (simp [zcells1, zcell] at hl; done) | cases hv
    | some l =>
      rw [hl] at hz
      cases z with
      | none => cases hz
      | some u =>
        simp only [Bool.and_eq_true] at hz
        have e1 := nagg hz.2
        have e2 := sameL_eq hz.1
        obtain ⟨k1, k2, k3⟩ := zero1_sound (c := c) (w := w) hl hv
        rw [← e2, e1] at k1
        have hn : ∀ n r, v ≠ .agg n r := by
          intro n r e
          subst e
          first | (cases hv; done) | (have := (chk_some hv).2; cases this)
        refine ⟨u, rfl, ?_, flat_VRel k1 hn, k3⟩
        rw [e1]
        cases v <;> first | exact k1 | exact k1.elim

end
end Go.Vm

/- New objects: variables, boxes, literals, made slices. -/
namespace Go.Vm
open Go
set_option linter.unusedVariables false

section
variable {gl : Nat → Option Row} {w0 : World} {ext : Nat → Nat → Prop} {av : Nat → Prop} {φ : Nat → Option Nat} {st st' : St} {a : Act} {w : World} {P : Program} {Γ : Ctx} {o : Oper} {c : Cx}

/-- an operation that lays down a new block -/
theorem runs_new (h : Rel gl w0 ext av φ st a w) {d : Nat} {x v : V} {u : Value} {cs : Array Value} {e : TypeId} (hd : o.dst = some d)
    (hs : st.after (some d) { v := v, new := some x, pg := [d] } = some st') (hr : (execOp a.eval o).run P w = .ok (.value u) (w.alloc (.cells cs e)))
    (hc : ∀ c', Mono (cxOf φ st.mem av w0.heap.size) c' w (w.alloc (.cells cs e)) → (∀ k, k ≠ d → c'.φ k = φ k) → c'.φ d = some w.heap.size → CRel c' (w.alloc (.cells cs e)) cs.toList x)
    (hv : ∀ c', Mono (cxOf φ st.mem av w0.heap.size) c' w (w.alloc (.cells cs e)) → c'.φ d = some w.heap.size → VRel c' (w.alloc (.cells cs e)) v u) : Runs P gl w0 ext av st' o a w := by
  obtain ⟨φ', hrel⟩ := h.after_new hs hc hv
  exact ⟨φ', u, _, .inl hr, by rw [hd]; exact hrel⟩

theorem run_newVar (t : TypeId) (v : Value) (w : World) : (newVar t v).run P w = .ok ⟨w.heap.size, 0, none⟩ (w.alloc (.cells v.cells t)) := by
  simp [newVar, newRow]

theorem alloc_runs (hty : Γ.ty = tyOf P 8) (h : Rel gl w0 ext av φ st a w) {t d : Nat} {ty : Ty} {z : V} (ho : o.op = .alloc t) (hd : o.dst = some d) (hq : Γ.ty t = some ty) (hz : ty.zero = some z)
    (hs : st.after (some d) { v := .p d 0 0 0, new := some z, pg := [d] } = some st') : Runs P gl w0 ext av st' o a w := by
  rw [hty] at hq
  obtain ⟨i, h1, h2, h3, h4⟩ := tyOf_info hq
  obtain ⟨u, hu, _, _, _⟩ := zero_sound (c := cxOf φ st.mem av w0.heap.size) (w := w) h4 hz
  refine runs_new h (u := .pointer (some ⟨w.heap.size, 0, none⟩)) (cs := u.cells) (e := t) hd hs ?_ ?_ ?_
  · simp [execOp, ho, Instr.alloc, zeroValue, typeInfo, h1, hu, run_newVar]
  · intro c' hm hφ hφd
    obtain ⟨u', hu', hC, _, _⟩ := zero_sound (c := c') (w := w.alloc (.cells u.cells t)) h4 hz
    rw [hu] at hu'
    cases hu'
    exact hC
  · intro c' hm hφd
    exact ⟨_, hφd, rfl⟩

/-- the cells of a value -/
theorem cells_CRel {w : World} {x : V} {u : Value} (h : VRel c w x u) (h1 : ∀ xs, x ≠ .tup xs) (h2 : ∀ g cs, x ≠ .clo g cs) (h3 : x ≠ .any) : CRel c w u.cells.toList x := by
  by_cases hf : x.isFlat = true
  · obtain ⟨f1, f2, f3, f4, f5⟩ := flat_facts hf h
    rw [f3]; exact f4
  · cases x with
    | agg n r => obtain ⟨cs, rfl, h⟩ := h; exact h
    | st fs => obtain ⟨cs, css, rfl, h4, h5⟩ := h; exact ⟨css, h4, h5⟩
    | tup xs => exact absurd rfl (h1 xs)
    | clo g cs => exact absurd rfl (h2 g cs)
    | any => exact absurd rfl h3
    | row r => exact h.elim
    | ref f o y => exact h.elim
    | _ => exact absurd rfl hf

theorem box_runs (h : Rel gl w0 ext av φ st a w) {t d : Nat} {x : V} {e : Operand} (ho : o.op = .box t e) (hd : o.dst = some d) (hk : x.keys.contains d = false)
    (h1 : ∀ xs, x ≠ .tup xs) (h2 : ∀ g cs, x ≠ .clo g cs) (h3 : x ≠ .any) (hv : VRel (cxOf φ st.mem av w0.heap.size) w x (a.eval e))
    (hs : st.after (some d) { v := .p d 0 0 0, new := some x, pg := [d] } = some st') : Runs P gl w0 ext av st' o a w := by
  refine runs_new h (u := .pointer (some ⟨w.heap.size, 0, none⟩)) (cs := (a.eval e).cells) (e := t) hd hs ?_ ?_ ?_
  · simp [execOp, ho, Instr.box, run_newVar]
  · intro c' hm hφ hφd
    exact cells_CRel (VRel_mono hm (fun k hkk => hφ k (fun e => by subst e; simp at hk; exact hk hkk)) hv) h1 h2 h3
  · intro c' hm hφd
    exact ⟨_, hφd, rfl⟩

/-! ### literals -/

theorem mapO_get {α β : Type} {f : α → Option β} : ∀ {as : List α} {bs : List β}, mapO f as = some bs → bs.length = as.length ∧ ∀ (j : Nat) (a : α), as[j]? = some a → ∃ b, f a = some b ∧ bs[j]? = some b
  | [], bs, h => by cases h; exact ⟨rfl, fun j a e => by simp at e⟩
  | x :: as, bs, h => by
    simp only [mapO] at h
    cases hx : f x with
    | none => rw [hx] at h; cases h
    | some b =>
      rw [hx] at h
      cases hm : mapO f as with
      | none => rw [hm] at h; cases h
      | some bs' =>
        rw [hm] at h
        cases h
        obtain ⟨k1, k2⟩ := mapO_get hm
        refine ⟨by simp [k1], fun j a e => ?_⟩
        cases j with
        | zero => simp at e; subst e; exact ⟨b, hx, by simp⟩
        | succ j => simp at e; simpa using k2 j a e

theorem inOrder_zip {n : Nat} : ∀ {k : Nat} {idx : List Nat} {args : List V}, idx.length = args.length → inOrder n k (idx.zip args) = true → n = k + args.length ∧ ∀ (us : List Value), us.length = args.length → idx.zip us = (us.zipIdx k).map fun x => (x.2, x.1)
  | k, [], [], _, h => by
    simp [inOrder] at h
    exact ⟨by simp; omega, fun us hu => by simp at hu; subst hu; rfl⟩
  | k, i :: idx, x :: args, hl, h => by
    simp only [List.zip_cons_cons, inOrder, Bool.and_eq_true, beq_iff_eq] at h
    obtain ⟨k1, k2⟩ := inOrder_zip (by simpa using hl) h.2
    refine ⟨by simp; omega, fun us hu => ?_⟩
    cases us with
    | nil => simp at hu
    | cons u us =>
      have := k2 us (by simpa using hu)
      simp [this, h.1]
  | k, [], _ :: _, hl, _ => by simp at hl
  | k, _ :: _, [], hl, _ => by simp at hl

theorem rowVals_bits {w : World} {wd : Nat} (hw : okW wd) : ∀ {idx : List Nat} {args : List V} {us : List Value} {xs : List (BitVec wd)}, idx.length = args.length →
    mapO (fun p : Nat × V => bits? wd p.2) (idx.zip args) = some xs → All2 (VRel c w) args us → us = xs.map (ic wd)
  | [], [], [], xs, _, hm, _ => by cases hm; rfl
  | i :: idx, x :: args, u :: us, xs, hl, hm, hv => by
    simp only [List.zip_cons_cons, mapO] at hm
    cases hx : bits? wd x with
    | none => rw [hx] at hm; cases hm
    | some b =>
      rw [hx] at hm
      cases hm2 : mapO (fun p : Nat × V => bits? wd p.2) (idx.zip args) with
      | none => rw [hm2] at hm; cases hm
      | some bs =>
        rw [hm2] at hm
        cases hm
        have := rowVals_bits hw (by simpa using hl) hm2 hv.2
        rw [this]
        simp only [List.map_cons, List.cons.injEq, and_true]
        cases x with
        | u w' y =>
          simp only [bits?] at hx
          by_cases e : w' = wd
          · subst e
            simp at hx
            subst hx
            exact (inv_u hv.1).2
          · simp [e] at hx
        | _ => cases hx
  | [], _ :: _, _, _, hl, _, _ => by simp at hl
  | _ :: _, [], _, _, hl, _, _ => by simp at hl
  | [], [], _ :: _, _, _, _, hv => hv.elim
  | _ :: _, _ :: _, [], _, _, _, hv => hv.elim

theorem rowVals_ints {w : World} : ∀ {idx : List Nat} {args : List V} {us : List Value} {xs : List Int}, idx.length = args.length →
    mapO (fun p : Nat × V => int? p.2) (idx.zip args) = some xs → All2 (VRel c w) args us → us = xs.map ii ∧ ∀ x ∈ xs, inR x
  | [], [], [], xs, _, hm, _ => by cases hm; exact ⟨rfl, fun x hx => by cases hx⟩
  | i :: idx, x :: args, u :: us, xs, hl, hm, hv => by
    simp only [List.zip_cons_cons, mapO] at hm
    cases hx : int? x with
    | none => rw [hx] at hm; cases hm
    | some b =>
      rw [hx] at hm
      cases hm2 : mapO (fun p : Nat × V => int? p.2) (idx.zip args) with
      | none => rw [hm2] at hm; cases hm
      | some bs =>
        rw [hm2] at hm
        cases hm
        obtain ⟨k1, k2⟩ := rowVals_ints (by simpa using hl) hm2 hv.2
        cases x with
        | i y =>
          cases hx
          obtain ⟨h1, h2⟩ := inv_i hv.1
          refine ⟨by rw [h2, k1]; rfl, fun x hx => ?_⟩
          rcases List.mem_cons.1 hx with rfl | hx
          · exact h1
          · exact k2 x hx
        | _ => cases hx
  | [], _ :: _, _, _, hl, _, _ => by simp at hl
  | _ :: _, [], _, _, hl, _, _ => by simp at hl
  | [], [], _ :: _, _, _, _, hv => hv.elim
  | _ :: _, _ :: _, [], _, _, _, hv => hv.elim

theorem rowVals_strs {w : World} : ∀ {idx : List Nat} {args : List V} {us : List Value} {xs : List Bytes}, idx.length = args.length →
    mapO (fun p : Nat × V => str? p.2) (idx.zip args) = some xs → All2 (VRel c w) args us → rowVals c w (.s xs) us
  | [], [], [], xs, _, hm, _ => by cases hm; trivial
  | i :: idx, x :: args, u :: us, xs, hl, hm, hv => by
    simp only [List.zip_cons_cons, mapO] at hm
    cases hx : str? x with
    | none => rw [hx] at hm; cases hm
    | some b =>
      rw [hx] at hm
      cases hm2 : mapO (fun p : Nat × V => str? p.2) (idx.zip args) with
      | none => rw [hm2] at hm; cases hm
      | some bs =>
        rw [hm2] at hm
        cases hm
        have k1 := rowVals_strs (by simpa using hl) hm2 hv.2
        cases x with
        | s y =>
          cases hx
          obtain ⟨s, h1, h2, h3⟩ := inv_s hv.1
          exact ⟨⟨s, h1, h2, h3⟩, k1⟩
        | _ => cases hx
  | [], _ :: _, _, _, hl, _, _ => by simp at hl
  | _ :: _, [], _, _, hl, _, _ => by simp at hl
  | [], [], _ :: _, _, _, _, hv => hv.elim
  | _ :: _, _ :: _, [], _, _, _, hv => hv.elim

theorem rowVals_bys {w : World} : ∀ {idx : List Nat} {args : List V} {us : List Value} {xs : List Bytes}, idx.length = args.length →
    mapO (fun p : Nat × V => bys? p.2) (idx.zip args) = some xs → All2 (VRel c w) args us → rowVals c w (.b false xs) us
  | [], [], [], xs, _, hm, _ => by cases hm; trivial
  | i :: idx, x :: args, u :: us, xs, hl, hm, hv => by
    simp only [List.zip_cons_cons, mapO] at hm
    cases hx : bys? x with
    | none => rw [hx] at hm; cases hm
    | some b =>
      rw [hx] at hm
      cases hm2 : mapO (fun p : Nat × V => bys? p.2) (idx.zip args) with
      | none => rw [hm2] at hm; cases hm
      | some bs =>
        rw [hm2] at hm
        cases hm
        have k1 := rowVals_bys (by simpa using hl) hm2 hv.2
        refine ⟨?_, k1⟩
        unfold bys? at hx
        split at hx
        · rename_i f y
          cases hx
          obtain ⟨a', len, cap, s1, s2, s3, s4, s5, s6⟩ := inv_sl hv.1
          exact ⟨a', len, cap, s1, s2, s3, s4, s6.imp id (fun ⟨blk, off, k1, k2⟩ => ⟨blk, off, k1, fun j y hy => ⟨fr_N f (k2.2 j y hy).1, (k2.2 j y hy).2⟩⟩)⟩
        · cases hx
          obtain rfl := inv_nils hv.1
          exact ⟨none, 0, 0, rfl, rfl, Nat.le_refl _, by decide, .inl rfl⟩
        · cases hx
  | [], _ :: _, _, _, hl, _, _ => by simp at hl
  | _ :: _, [], _, _, hl, _, _ => by simp at hl
  | [], [], _ :: _, _, _, _, hv => hv.elim
  | _ :: _, _ :: _, [], _, _, _, hv => hv.elim

theorem one_cells {u : Value} (h : u.oneCell' = true) : u.cells = #[u] := by
  cases u <;> first | rfl | cases h

/-- the two lists of parts: as the evaluator has them, and as the model -/
theorem parts_run (ps : Array (Nat × Operand)) (ρ : Operand → Value) : (ps.map fun x => (x.fst, ρ x.snd)).toList = (ps.toList.map (·.1)).zip ((ps.map (·.2)).toList.map ρ) := by
  rw [Array.toList_map, Array.toList_map]
  induction ps.toList with
  | nil => rfl
  | cons p ps ih => simp [ih]

theorem keyless_mono {w w' : World} {c c' : Cx} (hm : Mono c c' w w') {r : Row} {us : List Value} (h : rowVals c w r us) : rowVals c' w' r us := rowVals_mono hm h

theorem okW_of_ty {m t w : Nat} (h : tyOf P m t = some (.u w)) : okW w := by
  obtain ⟨_, hd⟩ := tyOf_desc h
  exact hd.1

theorem zero_flat {ty : Ty} {z : Option Value} (hf : ty.flat = true) (hne : ty ≠ .o) (h : zeroFits z ty = true) : ∃ u, z = some u ∧ u.cells = #[u] := by
  have nagg : ∀ {u : Value}, (isAggV u == false) = true → u.cells = #[u] := by
    intro u hu
    cases u <;> first | rfl | cases hu
  cases ty with
  | arr n e => cases hf
  | st ts => cases hf
  | o => exact absurd rfl hne
  | _ =>
    cases z with
    | none => simp [zeroFits, zcells, zcells1, zcell] at h
    | some u =>
      simp only [zeroFits, zcells, zcells1, zcell, Option.map_some, Bool.and_eq_true] at h
      exact ⟨u, rfl, nagg h.2⟩

theorem buildSlice_row (hty : Γ.ty = tyOf P 8) {t n : Nat} {idx : List Nat} {args : List V} {us : List Value} {r : Row} (hl : idx.length = args.length) (hr : aBuildSlice Γ t n (idx.zip args) = some r) (hv : All2 (VRel c w) args us) :
    ∃ m te ty, P.underlying t = some (.slice te) ∧ tyOf P m te = some ty ∧ ty.size = 1 ∧ ty.flat = true ∧ ty ≠ .o ∧ n ≤ 1000000 ∧ rowVals c w r us ∧ n = us.length ∧ idx.zip us = (us.zipIdx 0).map (fun x => (x.2, x.1)) ∧ r.len = n := by
  unfold aBuildSlice at hr
  split at hr
  · rename_i e hq
    rw [hty] at hq
    obtain ⟨_, te, d1, d2⟩ := tyOf_desc hq
    obtain ⟨⟨g1, g2⟩, hr⟩ := chk_some hr
    obtain ⟨n1, n2⟩ := inOrder_zip hl g1
    have hul : us.length = args.length := (All2.length hv).symm
    have fin : ∀ {m : Nat} {ty : Ty}, tyOf P m te = some ty → ty.size = 1 → ty.flat = true → ty ≠ .o → rowVals c w r us → ∃ m te ty, P.underlying t = some (.slice te) ∧ tyOf P m te = some ty ∧ ty.size = 1 ∧ ty.flat = true ∧ ty ≠ .o ∧ n ≤ 1000000 ∧ rowVals c w r us ∧ n = us.length ∧ idx.zip us = (us.zipIdx 0).map (fun x => (x.2, x.1)) ∧ r.len = n := by
      intro m ty k1 k2 k4 k5 k3
      refine ⟨m, te, ty, d1, k1, k2, k4, k5, g2, k3, by omega, n2 us hul, ?_⟩
      rw [← rowVals_len k3]; omega
    split at hr
    · rw [Option.map_eq_some_iff] at hr
      obtain ⟨xs, h1, rfl⟩ := hr
      have hw := okW_of_ty d2
      exact fin d2 rfl rfl (by simp) ⟨hw, rowVals_bits hw hl h1 hv⟩
    · rw [Option.map_eq_some_iff] at hr
      obtain ⟨xs, h1, rfl⟩ := hr
      exact fin d2 rfl rfl (by simp) (rowVals_ints hl h1 hv)
    · rw [Option.map_eq_some_iff] at hr
      obtain ⟨xs, h1, rfl⟩ := hr
      exact fin d2 rfl rfl (by simp) (rowVals_strs hl h1 hv)
    · split at hr
      · rename_i hz
        cases hr
        have : args = [] := by
          cases idx with
          | nil => cases args with
            | nil => rfl
            | cons _ _ => simp at hl
          | cons _ _ => cases args with
            | nil => rfl
            | cons _ _ => simp at hz
        subst this
        cases us with
        | nil => exact fin d2 rfl rfl (by simp) trivial
        | cons _ _ => exact hv.elim
      · rename_i k f x hz
        cases hr
        have : args = [V.sl f (Row.u 8 x)] := by
          cases idx with
          | nil => simp at hz
          | cons i idx => cases args with
            | nil => simp at hz
            | cons y args => cases idx with
              | nil => cases args with
                | nil => simp at hz; rw [hz.2]
                | cons _ _ => simp at hl
              | cons _ _ => cases args with
                | nil => simp at hl
                | cons _ _ => simp at hz
        subst this
        cases us with
        | nil => exact hv.elim
        | cons u us =>
          cases us with
          | cons _ _ => exact hv.2.elim
          | nil =>
            refine fin d2 rfl rfl (by simp) ⟨?_, trivial⟩
            obtain ⟨a', len, cap, s1, s2, s3, s4, s5, s6⟩ := inv_sl hv.1
            exact ⟨a', len, cap, s1, s2, s3, s4, s6.imp id (fun ⟨blk, off, k1, k2⟩ => ⟨blk, off, k1, fun j y hy => k2.2 j y hy⟩)⟩
      · rw [Option.map_eq_some_iff] at hr
        obtain ⟨xs, h1, rfl⟩ := hr
        exact fin d2 rfl rfl (by simp) (rowVals_bys hl h1 hv)
    · cases hr
  · cases hr

theorem buildSlice_run (hty : Γ.ty = tyOf P 8) (h : Rel gl w0 ext av φ st a w) {t n : Nat} {ps : Array (Nat × Operand)} {args : List V} {r : Row} (ho : o.op = .buildSlice t n ps)
    (hr : aBuildSlice Γ t n ((ps.toList.map (·.1)).zip args) = some r) (hv : All2 (VRel (cxOf φ st.mem av w0.heap.size) w) args ((ps.map (·.2)).toList.map a.eval)) :
    ∃ (te : TypeId) (us : List Value), (execOp a.eval o).run P w = .ok (.value (.slice (some ⟨w.heap.size, 0, none⟩) n n)) (w.alloc (.cells us.toArray te)) ∧ rowVals (cxOf φ st.mem av w0.heap.size) w r us ∧ n = us.length ∧ r.len = n ∧ n ≤ 1000000 := by
  have hl : (ps.toList.map (·.1)).length = args.length := by rw [All2.length hv]; simp
  obtain ⟨m, te, ty, d1, d2, hsz, hfl, hne, hn, hrow, hlen, hzip, hrl⟩ := buildSlice_row hty hl hr hv
  obtain ⟨inf, i1, i2, i3, i4⟩ := tyOf_info d2
  generalize hus : (ps.map (·.2)).toList.map a.eval = us at *
  have hone : ∀ v ∈ us, v.cells = #[v] := fun v hv => one_cells (rowVals_one hrow v hv)
  obtain ⟨z, hz, hzc⟩ := zero_flat hfl hne i4
  refine ⟨te, us, ?_, hrow, hlen, hrl, hn⟩
  have hsize : inf.size = 1 := by rw [i2, hsz]
  have hbig : ¬ (n * 1 > 2 ^ 24) := by omega
  have hp : (ps.map fun x => (x.fst, a.eval x.snd)).toList = (us.zipIdx 0).map (fun x => (x.2, x.1)) := by rw [parts_run, hus, hzip]
  have key : ∀ zero : Array Value, Instr.fill (fun i => some (i * 1, 1)) ((Array.range (n * 1)).map (zero[· % zero.size]!)) (ps.map fun x => (x.fst, a.eval x.snd)).toList = some us.toArray := by
    intro zero
    rw [hp]
    exact Great.fill_flat us _ hone (by simp [hlen])
  have hzr : (zeroValue te).run P w = .ok z w := by simp [zeroValue, typeInfo, i1, hz]
  have hsr : (sizeOf te).run P w = .ok 1 w := by simp [sizeOf, typeInfo, i1, hsize]
  simp only [execOp, ho, Instr.buildSlice, Sem.run_bind, run_underlying d1, Result.andThen_ok, hsr, hbig, if_false, Sem.run_pure]
  by_cases h0 : n * 1 = 0
  · simp only [h0, if_true, Sem.run_bind, Sem.run_pure, Result.andThen_ok]
    have := key #[]
    rw [h0] at this
    rw [this]
    simp [newRow]
  · simp only [h0, if_false, hzr, Sem.run_bind, Sem.run_pure, Result.andThen_ok, key]
    simp [newRow]
theorem buildSlice_runs (hty : Γ.ty = tyOf P 8) (h : Rel gl w0 ext av φ st a w) {t n d : Nat} {ps : Array (Nat × Operand)} {args : List V} {r : Row} (ho : o.op = .buildSlice t n ps) (hd : o.dst = some d)
    (hr : aBuildSlice Γ t n ((ps.toList.map (·.1)).zip args) = some r) (hv : All2 (VRel (cxOf φ st.mem av w0.heap.size) w) args ((ps.map (·.2)).toList.map a.eval))
    (hs : st.after (some d) { v := .gr d r.len, new := some (.row r), pg := [d] } = some st') : Runs P gl w0 ext av st' o a w := by
  obtain ⟨te, us, hrun, hrow, hlen, hrl, hn⟩ := buildSlice_run hty h ho hr hv
  refine runs_new h (u := .slice (some ⟨w.heap.size, 0, none⟩) n n) (cs := us.toArray) (e := te) hd hs hrun ?_ ?_
  · intro c' hm hφ hφd
    exact ⟨us, [], by simp, rowVals_mono hm hrow⟩
  · intro c' hm hφd
    refine ⟨_, n, by rw [hrl], by omega, .inr ⟨w.heap.size, us.toArray, te, (0, 0), hφd, rfl, heap_alloc_new w _, by simp; omega⟩⟩

/-- a literal that is only read -/
theorem lit_runs (hty : Γ.ty = tyOf P 8) (h : Rel gl w0 ext av φ st a w) {t n : Nat} {ps : Array (Nat × Operand)} {args : List V} {r : Row} (ho : o.op = .buildSlice t n ps)
    (hr : aBuildSlice Γ t n ((ps.toList.map (·.1)).zip args) = some r) (hv : All2 (VRel (cxOf φ st.mem av w0.heap.size) w) args ((ps.map (·.2)).toList.map a.eval)) (hok : okR r)
    (hs : st.after o.dst { v := .sl true r } = some st') : Runs P gl w0 ext av st' o a w := by
  obtain ⟨te, us, hrun, hrow, hlen, hrl, hn⟩ := buildSlice_run hty h ho hr hv
  have hg := h.grown (.cells us.toArray te)
  refine ⟨φ, _, _, .inl hrun, hg.after_pure hs ?_⟩
  have hm : Mono (cxOf φ st.mem av w0.heap.size) (cxOf φ st.mem av w0.heap.size) w (w.alloc (.cells us.toArray te)) := by
    refine ⟨rfl, fun _ _ hn => hn, fun b hb _ => same_cells (alloc_old w _ b hb), fun b cur e' fr hh => ⟨cur, fr, ?_, rfl⟩⟩
    rw [alloc_old w _ b (Array.getElem?_eq_some_iff.1 hh).1]; exact hh
  refine ⟨_, rfl, _, n, n, rfl, hrl.symm, Nat.le_refl _, by simp only [LIM]; omega, hok, .inr ⟨w.heap.size, 0, rfl, rowAt_of_vals (rowVals_mono hm hrow) fun j u hu => ⟨?_, ?_⟩⟩⟩
  · have hle := h.keep.size
    simp only [Cx.fr, if_true]
    rintro (hc | hc)
    · have := N_lt h hc; omega
    · have hc : w.heap.size < w0.heap.size := hc
      omega
  · have hh := heap_alloc_new w (.cells us.toArray te)
    simp only [World.cell?, hh, Nat.zero_add]
    simpa using hu

/-! ### literals of arrays and structs -/

theorem foldl_splL (off : Nat) (v : Value) (cs : Array Value) (h : off + v.cells.size ≤ cs.size) :
    (v.cells.zipIdx.foldl (fun cs (c, j) => cs.setIfInBounds (off + j) c) cs) = (splL cs.toList off v.cells.toList).toArray := by
  obtain ⟨h1, h2⟩ := Great.foldl_set off v.cells.toList 0 cs
  have e : (v.cells.zipIdx.foldl (fun cs (c, j) => cs.setIfInBounds (off + j) c) cs) = ((v.cells.toList.zipIdx 0).foldl (fun cs (x : Value × Nat) => cs.setIfInBounds (off + x.2) x.1) cs) := by
    rw [← Array.foldl_toList, Array.toList_zipIdx]
  rw [e]
  apply Array.ext_getElem?
  intro k
  rw [h2 k]
  simp only [splL, List.getElem?_toArray, Nat.add_zero, Array.length_toList]
  by_cases hk : off ≤ k ∧ k < off + v.cells.size ∧ k < cs.size
  · rw [if_pos hk, List.append_assoc, List.getElem?_append_right (by simp; omega), List.getElem?_append_left (by simp; omega)]
    congr 1
    simp; omega
  · rw [if_neg hk]
    by_cases hlt : k < off
    · rw [List.append_assoc, List.getElem?_append_left (by simp; omega), List.getElem?_take, if_pos hlt]; simp
    · rw [List.getElem?_append_right (by simp; omega)]
      simp only [List.length_append, List.length_take, Array.length_toList, List.getElem?_drop]
      have : off + v.cells.size + (k - (min off cs.size + v.cells.size)) = k := by omega
      rw [this]; simp

/-- the parts of an array literal, one behind the other -/
theorem fill_arr {w : World} (sz : Nat) : ∀ {idx : List Nat} {args : List V} {us : List Value} {z z' : V} {cs : Array Value}, idx.length = args.length → All2 (VRel c w) args us → CRel c w cs.toList z →
    putParts sz z (idx.zip args) = some z' →
    ∃ cs', Instr.fill (fun i => some (i * sz, sz)) cs (idx.zip us) = some cs' ∧ CRel c w cs'.toList z' ∧ cs'.size = cs.size
  | [], [], [], z, z', cs, _, _, hz, hp => by cases hp; exact ⟨cs, rfl, hz, rfl⟩
  | i :: idx, x :: args, u :: us, z, z', cs, hl, hv, hz, hp => by
    simp only [List.zip_cons_cons, putParts] at hp
    obtain ⟨hsx, hp⟩ := chk_some hp
    cases hw : wr z (i * sz) x with
    | none => rw [hw] at hp; cases hp
    | some y =>
      rw [hw] at hp
      obtain ⟨k1, k2, k3, k4, _⟩ := wr_sound hz hw hv.1
      simp only [Array.length_toList] at k2 k3
      have hle : i * sz + u.cells.size ≤ cs.size := k3
      obtain ⟨cs', r1, r2, r3⟩ := fill_arr sz (cs := (splL cs.toList (i * sz) u.cells.toList).toArray) (by simpa using hl) hv.2 (by simpa using k4) hp
      refine ⟨cs', ?_, r2, ?_⟩
      · simp only [List.zip_cons_cons, Instr.fill]
        have hq : ¬ ((u.cells.size ≠ sz || i * sz + u.cells.size > cs.size) = true) := by simp; omega
        rw [if_neg hq, foldl_splL _ _ _ hle]
        exact r1
      · rw [r3]; simp; rw [splL_len _ _ _ (by simpa using hle)]; simp
  | [], _ :: _, _, _, _, _, hl, _, _, _ => by simp at hl
  | _ :: _, [], _, _, _, _, hl, _, _, _ => by simp at hl
  | [], [], _ :: _, _, _, _, _, hv, _, _ => hv.elim
  | _ :: _, _ :: _, [], _, _, _, _, hv, _, _ => hv.elim

theorem splL_at {pre mid post us : List Value} (h : us.length = mid.length) : splL (pre ++ mid ++ post) pre.length us = pre ++ us ++ post := by
  have := splL_mid pre mid post 0 us (by omega)
  rw [Nat.add_zero] at this
  rw [this, splL_all _ _ h]

theorem fill_st {w : World} (pl : Nat → Option (Nat × Nat)) (ts : List Ty) : ∀ {idx : List Nat} {args : List V} {us : List Value} {fs fs' : List V} {css : List (List Value)} {cs : Array Value}, idx.length = args.length → All2 (VRel c w) args us → cs.toList = css.flatten → All2 (FRel c w) fs css →
    (∀ i v, fs[i]? = some v → pl i = some (sumL ((fs.take i).map V.len1), v.len1)) → putFields ts fs (idx.zip args) = some (.st fs') →
    ∃ cs' css', Instr.fill pl cs (idx.zip us) = some cs' ∧ cs'.toList = css'.flatten ∧ All2 (FRel c w) fs' css'
  | [], [], [], fs, fs', css, cs, _, _, hz, ha, _, hp => by cases hp; exact ⟨cs, css, rfl, hz, ha⟩
  | i :: idx, x :: args, u :: us, fs, fs', css, cs, hl, hv, hz, ha, hpl, hp => by
    simp only [List.zip_cons_cons, putFields] at hp
    cases hi : fs[i]? with
    | none => rw [hi] at hp; cases hp
    | some y =>
      rw [hi] at hp
      dsimp only at hp
      obtain ⟨⟨g1, g2⟩, hp⟩ := chk_some hp
      have hu : FRel c w x u.cells.toList := by
        have h1 := cells_CRel hv.1 (by intro xs e; subst e; simp at g2) (by intro g cs e; subst e; simp at g2) (by intro e; subst e; simp at g2)
        exact CRel_flat h1 (by intro fs e; subst e; simp at g2) (by intro r e; subst e; simp at g2)
      have hul := FRel_len hu
      obtain ⟨mid, hm, hfm⟩ := All2.get ha i y hi
      have hml := FRel_len hfm
      have hlt : i < css.length := (List.getElem?_eq_some_iff.1 hm).1
      have hcs : css = css.take i ++ mid :: css.drop (i + 1) := by
        rw [List.getElem?_eq_getElem hlt] at hm
        cases hm
        simp
      have hoff : (css.take i).flatten.length = sumL ((fs.take i).map V.len1) := flatten_len (All2_take i ha)
      have hcs2 : cs.toList = (css.take i).flatten ++ mid ++ (css.drop (i + 1)).flatten := by
        rw [hz]; conv => lhs; rw [hcs]
        simp
      have hsz : u.cells.size = mid.length := by rw [← Array.length_toList, hul, hml, g1]
      have hle : sumL ((fs.take i).map V.len1) + u.cells.size ≤ cs.size := by
        rw [← Array.length_toList (xs := cs), hcs2]
        simp only [List.length_append]
        omega
      have hset : splL cs.toList (sumL ((fs.take i).map V.len1)) u.cells.toList = (css.set i u.cells.toList).flatten := by
        rw [← hoff, hcs2, splL_at (by simp [hsz])]
        conv => rhs; rw [hcs]
        rw [List.set_append_right _ _ (by simp; omega)]
        have : i - (List.take i css).length = 0 := by simp; omega
        rw [this]
        simp
      have hlen : ∀ j v, (fs.set i x)[j]? = some v → pl j = some (sumL (((fs.set i x).take j).map V.len1), v.len1) := by
        intro j v hj
        have hmap : (fs.set i x).map V.len1 = fs.map V.len1 := by
          rw [List.map_set, ← g1]
          apply List.ext_getElem?
          intro k
          rw [List.getElem?_set]
          split
          · rename_i e
            subst e
            split
            · rw [List.getElem?_map, hi]; rfl
            · rename_i hh
              rw [List.getElem?_eq_none (by omega)]
          · rfl
        have h2 : ((fs.set i x).take j).map V.len1 = (fs.take j).map V.len1 := by rw [List.map_take, hmap, List.map_take]
        rw [h2]
        have hjl : j < fs.length := by have := (List.getElem?_eq_some_iff.1 hj).1; simpa using this
        rw [hpl j fs[j] (List.getElem?_eq_getElem hjl)]
        have e1 : ((fs.set i x).map V.len1)[j]? = some v.len1 := by rw [List.getElem?_map, hj]; rfl
        rw [hmap, List.getElem?_map, List.getElem?_eq_getElem hjl] at e1
        simp at e1
        rw [e1]
      obtain ⟨cs', css', r1, r2, r3⟩ := fill_st pl ts (cs := (splL cs.toList (sumL ((fs.take i).map V.len1)) u.cells.toList).toArray) (css := css.set i u.cells.toList) (by simpa using hl) hv.2 (by simpa using hset) (All2.set ha i x _ hu) hlen hp
      refine ⟨cs', css', ?_, r2, r3⟩
      simp only [List.zip_cons_cons, Instr.fill, hpl i y hi]
      have hq : ¬ ((u.cells.size ≠ y.len1 || sumL ((fs.take i).map V.len1) + u.cells.size > cs.size) = true) := by
        generalize sumL ((fs.take i).map V.len1) = off at hle ⊢
        simp; omega
      rw [if_neg hq, foldl_splL _ _ _ hle]
      exact r1
  | [], _ :: _, _, _, _, _, _, hl, _, _, _, _, _ => by simp at hl
  | _ :: _, [], _, _, _, _, _, hl, _, _, _, _, _ => by simp at hl
  | [], [], _ :: _, _, _, _, _, _, hv, _, _, _, _ => hv.elim
  | _ :: _, _ :: _, [], _, _, _, _, _, hv, _, _, _, _ => hv.elim

/-- the places of a struct's fields -/
theorem run_places (P : Program) (n : Nat) (w : World) : ∀ {ts : List Ty} {fs : List Field} {o : Nat}, mapO' (fun f => tyOf P n f.type) fs = some ts → fieldsFit P o ts fs = true →
    ∃ pl : List (Nat × Nat), (fs.mapM (m := Sem) fun f => do pure (f.offset, ← sizeOf f.type)).run P w = .ok pl w ∧ ∀ i : Nat, pl[i]? = (ts[i]?).map fun ty => (o + Ty.sizes (ts.take i), ty.size)
  | [], [], o, _, _ => ⟨[], rfl, fun i => by simp⟩
  | [], f :: fs, o, hm, hf => by simp [fieldsFit] at hf
  | t :: ts, [], o, hm, _ => by simp [mapO'] at hm
  | t :: ts, f :: fs, o, hm, hf => by
    simp only [mapO'] at hm
    cases h1 : tyOf P n f.type with
    | none => rw [h1] at hm; cases hm
    | some t' =>
      rw [h1] at hm
      cases h2 : mapO' (fun f => tyOf P n f.type) fs with
      | none => rw [h2] at hm; cases hm
      | some ts' =>
        rw [h2] at hm
        cases hm
        simp [fieldsFit] at hf
        obtain ⟨pl, k1, k2⟩ := run_places P n w h2 hf.2
        refine ⟨(f.offset, t.size) :: pl, ?_, fun i => ?_⟩
        · rw [List.mapM_cons]
          simp only [Sem.run_bind, sizeOf_run h1, Result.andThen_ok, Sem.run_pure] at k1 ⊢
          rw [k1]
          simp
        · cases i with
          | zero => simp [Ty.sizes, hf.1]
          | succ i => simp [k2, Ty.sizes, Nat.add_assoc]

theorem aBuild_sound (hty : Γ.ty = tyOf P 8) {t : Nat} {idx : List Nat} {args : List V} {us : List Value} {v : V} (hl : idx.length = args.length) (hr : aBuild Γ t (idx.zip args) = some v) (hv : All2 (VRel c w) args us) (ps : Array (Nat × Value)) (hps : ps.toList = idx.zip us) :
    ∃ u, (Instr.build t ps).run P w = .ok u w ∧ VRel c w v u := by
  unfold aBuild at hr
  split at hr
  · rename_i n e hq
    rw [hty] at hq
    obtain ⟨_, te, d1, d2, d3⟩ := tyOf_desc hq
    obtain ⟨inf, i1, i2, i3, i4⟩ := tyOf_info hq
    have base : ∀ {z : V}, Ty.zero1 (.arr n e) = some z → ∃ zv, (zeroValue t).run P w = .ok zv w ∧ CRel c w zv.cells.toList z ∧ zv.cells.size = n * e.size := by
      intro z hz
      obtain ⟨u, h1, h2, h3, h4⟩ := zero_sound (c := c) (w := w) i4 (show Ty.zero (.arr n e) = some z from hz)
      refine ⟨u, by simp [zeroValue, typeInfo, i1, h1], h2, ?_⟩
      have hz' : ∃ r, z = .agg (n * e.size) r := by
        simp only [Ty.zero1] at hz
        cases hr : e.root <;> rw [hr] at hz <;> first | (cases hz; done) | (have := (chk_some hz).2; cases this; exact ⟨_, rfl⟩) | (cases hz; exact ⟨_, rfl⟩)
      obtain ⟨r, rfl⟩ := hz'
      obtain ⟨k1, k2, _, _⟩ := FRel_agg (show FRel c w (.agg _ r) u.cells.toList from h2)
      rw [← Array.length_toList, rowVals_len k1, k2]
    have parts : ∀ {z : V}, e.size = 1 → Ty.zero1 (.arr n e) = some z → putParts 1 z (idx.zip args) = some v → (∃ r, v = .agg (n * e.size) r) → ∃ u, (Instr.build t ps).run P w = .ok u w ∧ VRel c w v u := by
      intro z hs hz hp hva
      obtain ⟨zv, k1, k2, k3⟩ := base hz
      obtain ⟨cs', r1, r2, r3⟩ := fill_arr 1 hl hv k2 hp
      obtain ⟨r, rfl⟩ := hva
      refine ⟨.agg cs', ?_, cs', rfl, r2⟩
      simp only [Instr.build, Sem.run_bind, k1, Result.andThen_ok, run_underlying d1, sizeOf_run d2, hs, hps, r1, Sem.run_pure]
    have aggOf : ∀ {z : V}, Ty.zero1 (.arr n e) = some z → ∃ r, z = .agg (n * e.size) r := by
      intro z hz
      simp only [Ty.zero1] at hz
      cases hr : e.root <;> rw [hr] at hz <;> first | (cases hz; done) | (have := (chk_some hz).2; cases this; exact ⟨_, rfl⟩) | (cases hz; exact ⟨_, rfl⟩)
    have aggPut : ∀ {ps : List (Nat × V)} {m : Nat} {r : Row} {y : V}, putParts 1 (.agg m r) ps = some y → ∃ r, y = .agg m r := by
      intro ps
      induction ps with
      | nil => intro m r y hp; cases hp; exact ⟨_, rfl⟩
      | cons p ps ih =>
        intro m r y hp
        simp only [putParts] at hp
        obtain ⟨_, hp⟩ := chk_some hp
        cases hw : wr (.agg m r) (p.1 * 1) p.2 with
        | none => rw [hw] at hp; cases hp
        | some z' =>
          rw [hw] at hp
          have : ∃ r', z' = .agg m r' := by
            unfold wr at hw
            dsimp only at hw
            split at hw
            · split at hw
              · cases hw; exact ⟨_, rfl⟩
              · have := (chk_some hw).2
                simp only [Option.map_eq_some_iff] at this
                obtain ⟨r', _, rfl⟩ := this
                exact ⟨r', rfl⟩
            · have := (chk_some hw).2
              simp only [Option.map_eq_some_iff] at this
              obtain ⟨r', _, rfl⟩ := this
              exact ⟨r', rfl⟩
          obtain ⟨r', rfl⟩ := this
          exact ih hp
    have put : e.size = 1 → (Ty.zero1 (.arr n e)).bind (fun z => putParts 1 z (idx.zip args)) = some v → ∃ u, (Instr.build t ps).run P w = .ok u w ∧ VRel c w v u := by
      intro hs hb
      rw [Option.bind_eq_some_iff] at hb
      obtain ⟨z, hz, hp⟩ := hb
      obtain ⟨r, rfl⟩ := aggOf hz
      exact parts hs hz hp (aggPut hp)
    have dense : ∀ {r : Row} {z : V}, e.size = 1 → Ty.zero1 (.arr n e) = some z → inOrder n 0 (idx.zip args) = true → rowVals c w r us → ((∃ wd xs, r = .u wd xs) ∨ ∃ xs, r = .i xs) → v = .agg n r → ∃ u, (Instr.build t ps).run P w = .ok u w ∧ VRel c w v u := by
      intro r z hs hz ho hrow hk hvv
      subst hvv
      obtain ⟨zv, k1, k2, k3⟩ := base hz
      obtain ⟨n1, n2⟩ := inOrder_zip hl ho
      have hul : us.length = args.length := (All2.length hv).symm
      have hfill := Great.fill_flat us zv.cells (fun v hv => one_cells (rowVals_one hrow v hv)) (by rw [k3, hs]; omega)
      rw [← n2 us hul] at hfill
      refine ⟨.agg us.toArray, ?_, us.toArray, rfl, agg_of_vals (by simpa using hrow) (by rw [← rowVals_len hrow]; omega) hk⟩
      simp only [Instr.build, Sem.run_bind, k1, Result.andThen_ok, run_underlying d1, sizeOf_run d2, hs, hps, hfill, Sem.run_pure]
    split at hr
    · rename_i wd
      have hw : okW wd := okW_of_ty d2
      have hz : ∃ z, Ty.zero1 (.arr n (.u wd)) = some z := ⟨_, by simp only [Ty.zero1, Ty.root]; exact chk_ok (okU_iff.2 hw)⟩
      split at hr
      · rename_i hio
        rw [Option.map_eq_some_iff] at hr
        obtain ⟨xs, h1, h2⟩ := hr
        obtain ⟨z, hz⟩ := hz
        exact dense (r := .u wd xs) rfl hz hio ⟨hw, rowVals_bits hw hl h1 hv⟩ (.inl ⟨_, _, rfl⟩) h2.symm
      · exact put rfl hr
    · split at hr
      · rename_i hio
        rw [Option.map_eq_some_iff] at hr
        obtain ⟨xs, h1, h2⟩ := hr
        exact dense (r := .i xs) (z := .agg (n * Ty.size .i) (.i (zeroI (n * Ty.size .i)))) rfl rfl hio (rowVals_ints hl h1 hv) (.inr ⟨_, rfl⟩) h2.symm
      · exact put rfl hr
    · split at hr
      · rename_i hz0
        obtain ⟨zv, k1, k2, k3⟩ := base hr
        obtain ⟨r, rfl⟩ := aggOf hr
        refine ⟨.agg zv.cells, ?_, zv.cells, rfl, k2⟩
        have hp0 : ps.toList = [] := by
          rw [hps]
          cases idx with
          | nil => rfl
          | cons i idx => cases args with
            | nil => simp at hl
            | cons x args => simp at hz0
        simp only [Instr.build, Sem.run_bind, k1, Result.andThen_ok, run_underlying d1, sizeOf_run d2, hp0, Instr.fill, Sem.run_pure]
      · cases hr
  · rename_i ts hq
    rw [hty] at hq
    obtain ⟨n, fds, d1, d2, d3⟩ := tyOf_desc hq
    obtain ⟨inf, i1, i2, i3, i4⟩ := tyOf_info hq
    cases hz : Ty.zero (.st ts) with
    | none => rw [hz] at hr; cases hr
    | some z =>
      rw [hz] at hr
      obtain ⟨u, h1, h2, h3, h4⟩ := zero_sound (c := c) (w := w) i4 hz
      cases z with
      | st fs =>
        dsimp only at hr
        obtain ⟨css, h5, h6⟩ := h2
        obtain ⟨pl, p1, p2⟩ := run_places P n w d2 d3
        have hfl : fs.map V.len1 = ts.map Ty.size := by
          simp only [Ty.zero, Option.map_eq_some_iff] at hz
          obtain ⟨fs', hz, e⟩ := hz
          cases e
          have : ∀ {ts : List Ty} {fs : List V}, mapO Ty.zero1 ts = some fs → fs.map V.len1 = ts.map Ty.size := by
            intro ts
            induction ts with
            | nil => intro fs h; cases h; rfl
            | cons t ts ih =>
              intro fs h
              simp only [mapO] at h
              cases h3 : Ty.zero1 t with
              | none => rw [h3] at h; cases h
              | some v =>
                rw [h3] at h
                cases h4 : mapO Ty.zero1 ts with
                | none => rw [h4] at h; cases h
                | some vs =>
                  rw [h4] at h
                  cases h
                  simp only [List.map_cons, ih h4, List.cons.injEq, and_true]
                  cases t with
                  | arr n e =>
                    simp only [Ty.zero1] at h3
                    cases hr : e.root <;> rw [hr] at h3 <;> first | (cases h3; done) | (have := (chk_some h3).2; cases this; rfl) | (cases h3; rfl)
                  | u w => have := (chk_some h3).2; cases this; rfl
                  | st _ => cases h3
                  | o => cases h3
                  | _ => cases h3; rfl
          exact this hz
        have hsz : ∀ (l : List Ty), Ty.sizes l = sumL (l.map Ty.size) := by
          intro l
          induction l with
          | nil => rfl
          | cons t ts ih => simp [Ty.sizes, sumL, ih]
        have hstv : ∃ fs', v = .st fs' := by
          have : ∀ {ps : List (Nat × V)} {fs : List V} {y : V}, putFields ts fs ps = some y → ∃ fs', y = .st fs' := by
            intro ps
            induction ps with
            | nil => intro fs y h; cases h; exact ⟨_, rfl⟩
            | cons p ps ih =>
              intro fs y h
              obtain ⟨i, x⟩ := p
              simp only [putFields] at h
              cases hi : fs[i]? with
              | none => rw [hi] at h; cases h
              | some w => rw [hi] at h; exact ih (chk_some h).2
          exact this hr
        obtain ⟨fs', rfl⟩ := hstv
        have hplace : ∀ i v, fs[i]? = some v → (pl.toArray[i]? : Option (Nat × Nat)) = some (sumL ((fs.take i).map V.len1), v.len1) := by
          intro i v hi
          rw [List.getElem?_toArray, p2 i]
          have e1 : (fs.map V.len1)[i]? = some v.len1 := by rw [List.getElem?_map, hi]; rfl
          rw [hfl, List.getElem?_map] at e1
          cases hti : ts[i]? with
          | none => rw [hti] at e1; cases e1
          | some ty =>
            rw [hti] at e1
            simp at e1
            simp only [Option.map_some, Nat.zero_add, hsz, List.map_take, hfl, e1]
        obtain ⟨cs', css', r1, r2, r3⟩ := fill_st (fun i => pl.toArray[i]?) ts hl hv h5 h6 hplace hr
        refine ⟨.agg cs', ?_, cs', css', rfl, r2, r3⟩
        have hzr : (zeroValue t).run P w = .ok u w := by simp [zeroValue, typeInfo, i1, h1]
        have hmr : (fds.mapM (m := Sem) fun f => do pure (f.offset, ← sizeOf f.type)).run P w = .ok pl.toArray w := by
          rw [Array.mapM_eq_mapM_toList, Sem.run_map, p1]
          rfl
        simp only [Instr.build, Sem.run_bind, hzr, Result.andThen_ok, run_underlying d1, hmr, hps, r1, Sem.run_pure]
      | _ => cases hr
  · cases hr

end
end Go.Vm

/- Made slices, append, copy, lengths. -/
namespace Go.Vm
open Go
set_option linter.unusedVariables false

section
variable {gl : Nat → Option Row} {w0 : World} {ext : Nat → Nat → Prop} {av : Nat → Prop} {φ : Nat → Option Nat} {st st' : St} {a : Act} {w : World} {P : Program} {Γ : Ctx} {o : Oper} {c : Cx}

theorem rowZ_vals {e : Ty} {n : Nat} {r : Row} {z : Option Value} {m te : Nat} (hq : tyOf P m te = some e) (hr : e.rowZ n = some r) : ∃ inf z, P.info? te = some inf ∧ inf.zero = some z ∧ inf.size = 1 ∧ inf.bytes ≤ 24 ∧ z.cells = #[z] ∧ rowVals c w r (List.replicate n z) ∧ r.len = n ∧ okR r := by
  obtain ⟨inf, i1, i2, i3, i4⟩ := tyOf_info hq
  cases e with
  | u wd =>
    have hw := okW_of_ty hq
    cases hr
    obtain ⟨v, h1, h2⟩ := zero_flat rfl (by simp) i4
    rw [h1] at i4
    simp only [zeroFits, zcells, zcells1, zcell, Option.map_some, Bool.and_eq_true] at i4
    have e1 := sameL_eq i4.1
    rw [h2] at e1
    simp at e1
    subst e1
    exact ⟨inf, _, i1, h1, i2, by simpa [Ty.size] using i3, h2, ⟨hw, by simp [zeros, ic]⟩, by simp [Row.len, zeros], hw⟩
  | i =>
    cases hr
    obtain ⟨v, h1, h2⟩ := zero_flat rfl (by simp) i4
    rw [h1] at i4
    simp only [zeroFits, zcells, zcells1, zcell, Option.map_some, Bool.and_eq_true] at i4
    have e1 := sameL_eq i4.1
    rw [h2] at e1
    simp at e1
    subst e1
    refine ⟨inf, _, i1, h1, i2, by simpa [Ty.size] using i3, h2, ⟨by simp [zeroI, ii], fun x hx => ?_⟩, by simp [Row.len, zeroI], trivial⟩
    simp [zeroI] at hx
    rw [hx.2]; unfold inR; omega
  | _ => cases hr

theorem makeSlice_runs (hty : Γ.ty = tyOf P 8) (h : Rel gl w0 ext av φ st a w) {t d : Nat} {e : Ty} {n m : Int} {r : Row} {x y : Operand} (ho : o.op = .makeSlice t x y) (hd : o.dst = some d)
    (hq : Γ.ty t = some (.sl e)) (hr : e.rowZ n.toNat = some r) (hc : 0 ≤ n ∧ (m = n ∨ n = 0 ∧ 0 ≤ m) ∧ m ≤ 1099511627776)
    (hx : VRel (cxOf φ st.mem av w0.heap.size) w (.i n) (a.eval x)) (hy : VRel (cxOf φ st.mem av w0.heap.size) w (.i m) (a.eval y))
    (hs : st.after (some d) { v := .gr d n.toNat, new := some (.row r), pg := [d] } = some st') : Runs P gl w0 ext av st' o a w := by
  rw [hty] at hq
  obtain ⟨_, te, d1, d2⟩ := tyOf_desc hq
  obtain ⟨inf, z, i1, i2, i3, i4, i5, i6, i7, i8⟩ := rowZ_vals (c := cxOf φ st.mem av w0.heap.size) (w := w) (z := none) d2 hr
  obtain ⟨_, ex⟩ := inv_i hx
  obtain ⟨_, ey⟩ := inv_i hy
  have hb : (inf.bytes : Int) * m ≤ 281474976710656 := by
    have h1 : (inf.bytes : Int) * m ≤ 24 * m := Int.mul_le_mul_of_nonneg_right (by omega) (by omega)
    omega
  have hrun := run_make (P := P) w t te inf z d1 i1 i2 .i64 .i64 n m hc.1 (by omega) hb (by omega)
  rw [i5, i3, Nat.mul_one] at hrun
  refine runs_new h (u := .slice (some ⟨w.heap.size, 0, none⟩) n.toNat m.toNat) (cs := madeCells #[z] m.toNat) (e := te) hd hs ?_ ?_ ?_
  · simp only [execOp, ho, ex, ey, ii, Sem.run_bind, hrun, Result.andThen_ok, Sem.run_pure]
  · intro c' hm hφ hφd
    refine ⟨List.replicate n.toNat z, List.replicate (m.toNat - n.toNat) z, ?_, rowVals_mono hm i6⟩
    rw [toList_madeCells_one, List.replicate_append_replicate]
    congr 1; omega
  · intro c' hm hφd
    refine ⟨_, m.toNat, rfl, by omega, .inr ⟨w.heap.size, _, te, (0, 0), hφd, rfl, heap_alloc_new w _, by rw [size_madeCells]; exact Nat.le_refl _⟩⟩

/-! ### append -/

theorem rowOf'_ne {M : Nat → Option V} {e : Ty} {x : V} (h : x ≠ .nils) : rowOf' M e x = rowOf M x := by
  cases x <;> first | rfl | exact absurd rfl h

theorem row0_facts {e : Ty} {r0 : Row} {m te : Nat} (d2 : tyOf P m te = some e) (h0 : e.row0 = some r0) : r0.len = 0 ∧ okR r0 ∧ r0.esz = 1 ∧ e.size = 1 ∧ e.flat = true ∧ e ≠ .o := by
  unfold Ty.row0 at h0
  split at h0
  · cases h0; exact ⟨rfl, okW_of_ty d2, rfl, rfl, rfl, by simp⟩
  · cases h0; exact ⟨rfl, trivial, rfl, rfl, rfl, by simp⟩
  · cases h0; exact ⟨rfl, trivial, rfl, rfl, rfl, by simp⟩
  · cases h0; exact ⟨rfl, trivial, rfl, rfl, rfl, by simp⟩
  · cases h0

theorem rowOf'_reads (h : Rel gl w0 ext av φ st a w) {ks : List Nat} {e : Ty} {te m : Nat} (hq : tyOf P m te = some e) {x : V} {r : Row} {v : Value} (hx : rowOf' (restr ks st.mem) e x = some r) (hv : VRel (cxOf φ st.mem av w0.heap.size) w x v) :
    Reads (cxOf φ st.mem av w0.heap.size) w v r := by
  by_cases hn : x = .nils
  · subst hn
    obtain rfl := inv_nils hv
    obtain ⟨k1, k2, k3, _⟩ := row0_facts hq (show e.row0 = some r from hx)
    exact ⟨none, 0, by rw [k1], by rw [k1]; exact Nat.le_refl _, [], rowVals_nil k1 k2 k3, .inl rfl⟩
  · rw [rowOf'_ne hn] at hx
    exact rowOf_reads h (rowOf_restr hx) hv

/-- what is appended, as the kit's law has it -/
theorem reads_src {tx te : Nat} {v : Value} {r : Row} (h : Reads c w v r) (hk : P.underlying tx = some (.slice te)) :
    ∃ vs, rowVals c w r vs ∧ Src P 1 tx v r.len vs w := by
  obtain ⟨x, cap, rfl, hc, vs, h1, h2⟩ := h
  refine ⟨vs, h1, ?_⟩
  have hl := rowVals_len h1
  rcases h2 with rfl | ⟨ad, rfl, _, h3⟩
  · have h0 : r.len = 0 := by rw [← hl]; rfl
    rw [h0]
    cases x with
    | none => exact Src.ofNil w hk cap
    | some ad => exact Src.ofSlice w hk ad 0 cap [] rfl (by simp) (by simp)
  · exact Src.ofSlice w hk ad r.len cap vs (by rw [hl, Nat.mul_one]) h3 (rowVals_one h1)

theorem olds_run {v : Value} {r : Row} {x : Option Addr} {cap : Nat} (h : Reads c w v r) (hv : v = .slice x r.len cap) : ∃ vs, rowVals c w r vs ∧ (Builtin.firstCells 1 r.len (.slice x r.len cap)).run P w.drew = .ok vs.toArray w.drew := by
  obtain ⟨x', cap', e, hc, vs, h1, h2⟩ := h
  rw [hv] at e
  cases e
  refine ⟨vs, h1, ?_⟩
  have hl := rowVals_len h1
  rcases h2 with rfl | ⟨ad, rfl, _, h3⟩
  · have h0 : r.len = 0 := by rw [← hl]; rfl
    rw [h0]
    cases x with
    | none => exact run_firstCells_none w.drew 1 0 0 cap
    | some ad => exact run_firstCells_some w.drew 1 0 ad 0 cap [] rfl (by simp)
  · exact run_firstCells_some w.drew 1 r.len ad r.len cap vs (by rw [hl, Nat.mul_one]) (by simpa using h3)

theorem app_esz {r q r' : Row} (h : r.app q = some r') : r.esz = 1 ∧ q.esz = 1 ∧ r'.esz = 1 := by
  unfold Row.app at h
  split at h
  · split at h
    · cases h; exact ⟨rfl, rfl, rfl⟩
    · cases h
  · cases h; exact ⟨rfl, rfl, rfl⟩
  · cases h; exact ⟨rfl, rfl, rfl⟩
  · cases h; exact ⟨rfl, rfl, rfl⟩
  · cases h

theorem fits_append {need cap bytes bs : Nat} (h : cap < need) (hb : bytes ≤ bs) (hn : (need + need / 4 + 192) * bs ≤ 281474976710656) : Builtin.nextslicecap need cap * bytes ≤ 281474976710656 :=
  Nat.le_trans (Nat.mul_le_mul (nextslicecap_le_wide h) hb) hn

theorem append_runs (hty : Γ.ty = tyOf P 8) (h : Rel gl w0 ext av φ st a w) {ks : List Nat} {t d : Nat} {e : Ty} {x y : V} {res : Res} {u1 u2 : Value}
    (hr : aAppend Γ (restr ks st.mem) t d x y = some res) (hd : o.dst = some d)
    (hrun : ∀ (v : Value) (w' : World), (Builtin.append_ #[t, t] o.type #[u1, u2]).run P w = .ok v w' → (execOp a.eval o).run P w = .ok (.value v) w')
    (hx : VRel (cxOf φ st.mem av w0.heap.size) w x u1) (hy : VRel (cxOf φ st.mem av w0.heap.size) w y u2)
    (hs : st.after (some d) res = some st') : Runs P gl w0 ext av st' o a w := by
  unfold aAppend at hr
  split at hr
  case h_2 => cases hr
  rename_i e hq
  rw [hty] at hq
  obtain ⟨_, te, d1, d2⟩ := tyOf_desc hq
  obtain ⟨inf, i1, i2, i3, i4⟩ := tyOf_info d2
  obtain ⟨inf', i1', i5'⟩ := tyOf_bytes d2
  have i5 : inf.bytes ≤ e.bsz := by have := Option.some.inj (i1.symm.trans i1'); rw [this]; exact i5'
  cases hq' : rowOf' (restr ks st.mem) e y with
  | none => rw [hq'] at hr; cases hr
  | some q =>
    rw [hq'] at hr
    dsimp only at hr
    have hrd := rowOf'_reads h d2 hq' hy
    obtain ⟨qs, q1, q2⟩ := reads_src hrd d1
    have hdr : Rel gl w0 ext av φ st a w.drew := h.drawn _
    split at hr
    · -- onto nil
      obtain rfl := inv_nils hx
      cases h0 : e.row0 with
      | none => rw [h0] at hr; cases hr
      | some r0 =>
        rw [h0] at hr
        dsimp only at hr
        cases h1 : r0.app q with
        | none => rw [h1] at hr; cases hr
        | some r =>
          rw [h1] at hr
          dsimp only at hr
          obtain ⟨g1, g2⟩ := chk_some hr
          cases g2
          have r0f := row0_facts d2 h0
          obtain ⟨a1, a2⟩ := rowVals_app (rowVals_nil (c := cxOf φ st.mem av w0.heap.size) (w := w) r0f.1 r0f.2.1 r0f.2.2.1) q1 h1
          simp only [List.nil_append] at a1
          have hlen : r.len = q.len := by rw [a2, r0f.1, Nat.zero_add]
          obtain ⟨z, hz, hzc⟩ := zero_flat r0f.2.2.2.2.1 r0f.2.2.2.2.2 i4
          have hsz : inf.size = 1 := by rw [i2, r0f.2.2.2.1]
          by_cases hn : q.len = 0
          · -- nothing to append
            have hqs : qs = [] := List.eq_nil_of_length_eq_zero (by rw [rowVals_len q1]; exact hn)
            subst hqs
            rw [hn] at q2
            have hlen0 : r.len = 0 := by omega
            have hgo : (execOp a.eval o).run P w = .ok (.value (.slice none 0 0)) w := by
              refine hrun _ _ ?_
              have := q2.len
              have hc := q2.cells
              rw [← hsz] at hc
              simp [Builtin.append_, run_underlying d1, sizeOf, typeInfo, i1, this, hc]
            have hin : ∀ c' : Cx, rowIn c' w [] r := fun c' => ⟨[], [], rfl, rowVals_nil hlen0 (vals_ok a1) (app_esz h1).2.2⟩
            obtain ⟨φ', hrel⟩ := h.after_newNone (u := .slice none 0 0) hlen0 hs hin (fun c' => ⟨none, 0, by rw [hlen0], by omega, .inl ⟨rfl, rfl⟩⟩)
            exact ⟨φ', _, w, .inl hgo, by rw [hd]; exact hrel⟩
          · have hcap : 0 < 0 + q.len := by omega
            have hgrow := run_append_grow_src (P := P) w t t o.type te inf z d1 i1 hz none 0 0 [] (run_firstCells_none w.drew inf.size 0 0 0) u2 q.len qs (by rw [hsz]; exact q2) hcap
              (by have := g1.2; simp only [LIM] at this; omega) (fits_append hcap i5 (by have := g1.1; rw [hlen] at this; simpa using this))
            simp only [Nat.zero_add, List.nil_append] at hgrow
            have hgo := hrun _ _ hgrow
            refine Exists.elim (hdr.after_new (u := .slice (some ⟨w.heap.size, 0, none⟩) q.len (grownCap w q.len 0 te)) (cs := qs.toArray ++ Builtin.zeroCells z.cells (grownCap w q.len 0 te - q.len)) (e := te) hs ?_ ?_) (fun φ' hrel => ⟨φ', _, _, .inl hgo, by rw [hd]; exact hrel⟩)
            · intro c' hm _ _
              refine ⟨qs, (Builtin.zeroCells z.cells (grownCap w q.len 0 te - q.len)).toList, by simp, ?_⟩
              have hm0 : Mono (cxOf φ st.mem av w0.heap.size) (cxOf φ st.mem av w0.heap.size) w w.drew := Mono.of_le rfl (fun _ h => h) (fun _ => rfl)
              exact rowVals_mono hm (rowVals_mono hm0 a1)
            · intro c' hm hφd
              refine ⟨_, _, by rw [hlen], by rw [hlen]; exact grownCap_ge w q.len 0 te, .inr ⟨w.heap.size, _, te, (0, 0), hφd, rfl, heap_alloc_new w.drew _, ?_⟩⟩
              have h2 := rowVals_len q1
              have := grownCap_ge w q.len 0 te
              rw [hzc]
              simp only [Array.size_append, List.size_toArray, size_zeroCells, h2, List.length_singleton, Nat.mul_one]
              skip
              omega
    · -- onto a growing row
      rename_i x k len
      cases hmk : restr ks st.mem k with
      | none => rw [hmk] at hr; cases hr
      | some y0 =>
        rw [hmk] at hr
        cases y0 with
        | row r =>
          dsimp only at hr
          obtain ⟨⟨g0, g00, gk⟩, hr⟩ := chk_some hr
          cases h1 : (r.sub 0 len).app q with
          | none => rw [h1] at hr; cases hr
          | some r' =>
            rw [h1] at hr
            dsimp only at hr
            obtain ⟨g1, g2⟩ := chk_some hr
            cases g2
            have hmk' := restr_some hmk
            obtain ⟨ad, cap, rfl, hlc, hloc⟩ := inv_gr hx
            have hrow : rowOf st.mem (.gr k len) = some (r.sub 0 len) := by simp only [rowOf, hmk']; exact chk_ok g0
            have hreads := rowOf_reads h hrow hx
            have hsl : (r.sub 0 len).len = len := Row.sub_len _ _ _ (by omega)
            obtain ⟨os, o1, o2⟩ := olds_run (P := P) (cap := cap) (x := ad) hreads (by rw [hsl])
            obtain ⟨a1, a2⟩ := rowVals_app o1 q1 h1
            rw [hsl] at a2 o2
            obtain ⟨r0, h0⟩ := Option.isSome_iff_exists.1 g00
            have r0f := row0_facts d2 h0
            obtain ⟨z, hz, hzc⟩ := zero_flat r0f.2.2.2.2.1 r0f.2.2.2.2.2 i4
            have hsz : inf.size = 1 := by rw [i2, r0f.2.2.2.1]
            by_cases hroom : len + q.len ≤ cap
            · -- there is room
              rcases hloc with ⟨rfl, rfl⟩ | ⟨b, cur, ee, fr, f1, rfl, f3, f4⟩
              · have hq0 : q.len = 0 := by omega
                have hl0 : len = 0 := by omega
                have hqs : qs = [] := List.eq_nil_of_length_eq_zero (by rw [rowVals_len q1]; exact hq0)
                subst hqs
                subst hl0
                rw [hq0] at q2
                have hgo : (execOp a.eval o).run P w = .ok (.value (.slice none 0 0)) w := by
                  refine hrun _ _ ?_
                  have := q2.len
                  have hc := q2.cells
                  rw [← hsz] at hc
                  simp [Builtin.append_, run_underlying d1, sizeOf, typeInfo, i1, this, hc]
                have hr0 : r'.len = 0 := by omega
                have hesz' : r'.esz = 1 ∧ okR r' := ⟨(app_esz h1).2.2, vals_ok a1⟩
                refine ⟨φ, _, w, .inl hgo, ?_⟩
                rw [hd]
                refine h.after_same hs (fun j hj => by simpa using hj) hmk' (fun c' hm hφ => ?_) (fun _ c' hm hφ => ⟨none, 0, by rw [hr0], by omega, .inl ⟨rfl, rfl⟩⟩)
                rcases h.mem k _ hmk' with ⟨b, cur, e', e1, e2, e3⟩ | ⟨e1, e0, _⟩
                · exact .inl ⟨b, cur, e', by rw [hφ]; exact e1, e2, [], cur.toList, by simp, rowVals_nil hr0 hesz'.2 hesz'.1⟩
                · exact .inr ⟨by rw [hφ]; exact e1, e0, r', rfl, hr0, [], [], rfl, rowVals_nil hr0 hesz'.2 hesz'.1⟩
              · rcases h.mem k _ hmk' with ⟨b', cur', e', e1, e2, vs, spare, e3, e4⟩ | ⟨e1, _⟩
                case inr => have : (none : Option Nat) = some b := e1.symm.trans f1; cases this
                have hbb : b' = b := by have := e1.symm.trans f1; simpa using this
                subst hbb
                rw [e2] at f3
                have f4 : cap ≤ cur'.size := by cases f3; exact f4
                clear f3
                have hql := rowVals_len q1
                have hfit : 0 + len * 1 + 0 + qs.length ≤ cur'.size := by omega
                have hst := run_storeCells_at P b' (len * 1) e' qs 0 cur' w e2 (by omega) (rowVals_one q1)
                have hgo : (execOp a.eval o).run P w = .ok (.value (.slice (some ⟨b', 0, none⟩) (len + q.len) cap)) (w.setRow b' (splL cur'.toList len qs).toArray) := by
                  refine hrun _ _ ?_
                  have hcl := q2.cells
                  rw [← hsz] at hcl
                  have e5 : (⟨b', 0, none⟩ : Addr).add (len * inf.size) = ⟨b', len * 1, none⟩ := by rw [addr_add, hsz]; simp
                  simp only [Nat.mul_one, Nat.add_zero] at hst
                  simp [Builtin.append_, run_underlying d1, sizeOf, typeInfo, i1, q2.len, hroom, hcl, e5, hst, splL]
                refine ⟨φ, _, _, .inl hgo, ?_⟩
                rw [hd]
                have hl : (splL cur'.toList len qs).length = cur'.toList.length := splL_len _ _ _ (by simp; omega)
                refine h.after_upd hs (fun j hj => by simpa using hj) hmk' f1 e2 (setRow_heap w b' cur' _ e' _ e2) (by simpa using hl) (fun j hj => setRow_other w b' j _ hj) rfl rfl rfl (by simp) ?_ (fun _ => ?_)
                · intro c' hm hφ
                  have h5 := rowVals_sub e4 0 len
                  rw [List.drop_zero] at h5
                  have h6 := (rowVals_app h5 q1 h1).1
                  have hvl := rowVals_len e4
                  refine ⟨vs.take len ++ qs, cur'.toList.drop (len + qs.length), ?_, rowVals_mono hm h6⟩
                  simp only [splL]
                  rw [e3, List.take_append_of_le_length (by omega)]
                · intro c' hm hφ
                  refine ⟨_, cap, by rw [a2], by omega, .inr ⟨b', (splL cur'.toList len qs).toArray, e', (0, 0), by rw [hφ]; exact f1, rfl, setRow_heap w b' cur' _ e' _ e2, by simp [hl]; exact f4⟩⟩
            · -- there is none
              have hcap : cap < len + q.len := by omega
              have hgrow := run_append_grow_src (P := P) w t t o.type te inf z d1 i1 hz ad len cap os (by rw [hsz]; exact o2) u2 q.len qs (by rw [hsz]; exact q2) hcap
                (by have := g1.2; simp only [LIM] at this; omega) (fits_append hcap i5 (by first | (have := g1.1; rw [hlen] at this; simpa using this) | (have hh := g1.1; rw [show r'.len = len + q.len by omega] at hh; exact hh)))
              have hgo := hrun _ _ hgrow
              refine Exists.elim (hdr.after_move (u := .slice (some ⟨w.heap.size, 0, none⟩) (len + q.len) (grownCap w (len + q.len) cap te))
                (cs := (os ++ qs).toArray ++ Builtin.zeroCells z.cells (grownCap w (len + q.len) cap te - (len + q.len))) (e := te) hs hmk' gk ?_ ?_) (fun φ' hrel => ⟨φ', _, _, .inl hgo, by rw [hd]; exact hrel⟩)
              · intro c' hm _
                refine ⟨os ++ qs, (Builtin.zeroCells z.cells (grownCap w (len + q.len) cap te - (len + q.len))).toList, by simp, ?_⟩
                have hm0 : Mono (cxOf φ st.mem av w0.heap.size) (cxOf φ st.mem av w0.heap.size) w w.drew := Mono.of_le rfl (fun _ h => h) (fun _ => rfl)
                exact rowVals_mono hm (rowVals_mono hm0 a1)
              · intro c' hm hφd
                refine ⟨_, _, by rw [a2], by rw [a2]; exact grownCap_ge w (len + q.len) cap te, .inr ⟨w.heap.size, _, te, (0, 0), hφd, rfl, heap_alloc_new w.drew _, ?_⟩⟩
                have h2 := rowVals_len q1
                have h3 := rowVals_len o1
                have := grownCap_ge w (len + q.len) cap te
                rw [hzc]
                simp only [Array.size_append, List.size_toArray, size_zeroCells, List.length_append, h2, h3, hsl, List.length_singleton, Nat.mul_one]
                skip
                omega
        | _ => cases hr
    · -- onto the whole end of an own array
      rename_i x k f off i len
      cases hmk : restr ks st.mem k with
      | none => rw [hmk] at hr; cases hr
      | some y0 =>
        rw [hmk] at hr
        dsimp only at hr
        cases hsb : subV y0 f off with
        | none => rw [hsb] at hr; cases hr
        | some s =>
        rw [hsb] at hr
        cases s with
        | agg n r =>
          dsimp only at hr
          obtain ⟨⟨gf, gn, g00, gq⟩, hr2⟩ := chk_some hr
          clear hr
          subst gf
          have hoff : off = 0 ∧ y0 = .agg n r := by
            unfold subV at hsb
            rw [if_pos rfl] at hsb
            obtain ⟨e1, e2⟩ := chk_some hsb
            exact ⟨e1, by cases e2; rfl⟩
          obtain ⟨rfl, rfl⟩ := hoff
          cases h1 : (r.sub i len).app q with
          | none => rw [h1] at hr2; cases hr2
          | some r' =>
            rw [h1] at hr2
            dsimp only at hr2
            obtain ⟨g1, g2⟩ := chk_some hr2
            cases g2
            have hmk' := restr_some hmk
            obtain ⟨b, cap, f1, rfl, hlc, cur, ee, fr, f3, f4⟩ := inv_os' hx
            have hcur : cur.size = n ∧ r.len = n := by
              rcases h.mem k _ hmk' with ⟨b', cur', e', e1, e2, e3⟩ | ⟨e1, _⟩
              · have hbb : b' = b := by have := e1.symm.trans f1; simpa using this
                subst hbb
                rw [e2] at f3
                cases f3
                obtain ⟨q1, q2, q3, q4⟩ := FRel_agg (show FRel (cxOf φ st.mem av w0.heap.size) w (.agg n r) cur.toList from e3)
                have := rowVals_len q1
                rw [Array.length_toList] at this
                exact ⟨by omega, by omega⟩
              · have := e1.symm.trans f1; cases this
            obtain ⟨hc1, hc2⟩ := hcur
            have hcapl : cap = len := by omega
            subst hcapl
            have hrow : rowOf st.mem (.os k 0 0 i cap) = some (r.sub i cap) := by
              simp only [rowOf, hmk', hsb]; exact chk_ok (by omega)
            have hreads := rowOf_reads h hrow hx
            have hsl : (r.sub i cap).len = cap := Row.sub_len _ _ _ (by omega)
            obtain ⟨os, o1, o2⟩ := olds_run (P := P) (cap := cap) (x := some ⟨b, 0 + i, none⟩) hreads (by rw [hsl])
            obtain ⟨a1, a2⟩ := rowVals_app o1 q1 h1
            rw [hsl] at a2 o2
            obtain ⟨r0, h0⟩ := Option.isSome_iff_exists.1 g00
            have r0f := row0_facts d2 h0
            obtain ⟨z, hz, hzc⟩ := zero_flat r0f.2.2.2.2.1 r0f.2.2.2.2.2 i4
            have hsz : inf.size = 1 := by rw [i2, r0f.2.2.2.1]
            have hcap : cap < cap + q.len := by omega
            have hgrow := run_append_grow_src (P := P) w t t o.type te inf z d1 i1 hz (some ⟨b, 0 + i, none⟩) cap cap os (by rw [hsz]; exact o2) u2 q.len qs (by rw [hsz]; exact q2) hcap
              (by have := g1.2; simp only [LIM] at this; omega) (fits_append hcap i5 (by have hh := g1.1; rw [show r'.len = cap + q.len by omega] at hh; exact hh))
            have hgo := hrun _ _ hgrow
            refine Exists.elim (hdr.after_new (u := .slice (some ⟨w.heap.size, 0, none⟩) (cap + q.len) (grownCap w (cap + q.len) cap te)) (cs := (os ++ qs).toArray ++ Builtin.zeroCells z.cells (grownCap w (cap + q.len) cap te - (cap + q.len))) (e := te) hs ?_ ?_) (fun φ' hrel => ⟨φ', _, _, .inl hgo, by rw [hd]; exact hrel⟩)
            · intro c' hm _ _
              refine ⟨os ++ qs, (Builtin.zeroCells z.cells (grownCap w (cap + q.len) cap te - (cap + q.len))).toList, by simp, ?_⟩
              have hm0 : Mono (cxOf φ st.mem av w0.heap.size) (cxOf φ st.mem av w0.heap.size) w w.drew := Mono.of_le rfl (fun _ h => h) (fun _ => rfl)
              exact rowVals_mono hm (rowVals_mono hm0 a1)
            · intro c' hm hφd
              refine ⟨_, _, by rw [a2], by rw [a2]; exact grownCap_ge w (cap + q.len) cap te, .inr ⟨w.heap.size, _, te, (0, 0), hφd, rfl, heap_alloc_new w.drew _, ?_⟩⟩
              have h2 := rowVals_len q1
              have h3 := rowVals_len o1
              have := grownCap_ge w (cap + q.len) cap te
              rw [hzc]
              simp only [Array.size_append, List.size_toArray, size_zeroCells, List.length_append, h2, h3, hsl, List.length_singleton, Nat.mul_one]
              skip
              omega
        | _ => cases hr
    · cases hr

/-! ### copy -/

theorem splice_vals {r q r' : Row} {vs us : List Value} (h : rowVals c w r vs) (hq : rowVals c w q us) {i : Nat} (hs : r.splice i q = some r') (hl : i + q.len ≤ r.len) :
    rowVals c w r' (splL vs i us) ∧ r'.len = r.len ∧ ((∃ wd xs, r' = .u wd xs) ∨ ∃ xs, r' = .i xs) := rowVals_splice h hq hs hl

theorem copy_runs (hty : Γ.ty = tyOf P 8) (h : Rel gl w0 ext av φ st a w) {ks : List Nat} {t t' : Nat} {x y : V} {res : Res} {u1 u2 : Value}
    (hr : aCopy Γ (restr ks st.mem) t x y = some res)
    (hrun : ∀ (v : Value) (w' : World), (Builtin.copy_ #[t, t'] o.type #[u1, u2]).run P w = .ok v w' → (execOp a.eval o).run P w = .ok (.value v) w')
    (hx : VRel (cxOf φ st.mem av w0.heap.size) w x u1) (hy : VRel (cxOf φ st.mem av w0.heap.size) w y u2)
    (hs : st.after o.dst res = some st') : Runs P gl w0 ext av st' o a w := by
  unfold aCopy at hr
  split at hr
  case h_2 => cases hr
  rename_i e hq
  rw [hty] at hq
  obtain ⟨_, te, d1, d2⟩ := tyOf_desc hq
  obtain ⟨inf, i1, i2, i3, i4⟩ := tyOf_info d2
  cases hq' : rowOf (restr ks st.mem) y with
  | none => rw [hq'] at hr; cases hr
  | some q =>
    rw [hq'] at hr
    dsimp only at hr
    split at hr
    case h_2 => cases hr
    rename_i x k f off i len
    cases hm : restr ks st.mem k with
    | none => rw [hm] at hr; cases hr
    | some cc =>
      rw [hm] at hr
      dsimp only at hr
      split at hr
      case h_2 => cases hr
      rename_i n r hsub
      obtain ⟨⟨g1, g2, g3⟩, hr⟩ := chk_some hr
      cases hsp : r.splice i (q.sub 0 (min q.len len)) with
      | none => rw [hsp] at hr; cases hr
      | some r' =>
        rw [hsp] at hr
        cases hr
        obtain ⟨b0, cap, f1, rfl, hlc⟩ := inv_os hx
        have hp : VRel (cxOf φ st.mem av w0.heap.size) w (.p k f off i) (.pointer (some ⟨b0, off + i, none⟩)) := ⟨b0, f1, rfl⟩
        obtain ⟨b, cur, ee, pre, mid, post, f2, hpe, e2, hc, hpl, hmid, hcell, hnf, hput⟩ := ptr_cells h (restr_some hm) hsub hp
        have hbb : b0 = b := by have := f1.symm.trans f2; simpa using this
        subst hbb
        obtain ⟨h1, h2, h3, h4⟩ := FRel_agg (show FRel _ w (.agg n r) mid from hmid)
        have hrd := rowOf_reads h (rowOf_restr hq') hy
        obtain ⟨x2, cap2, rfl, hc2, vs, q1, q2⟩ := hrd
        have hml := rowVals_len h1
        have hvl := rowVals_len q1
        have qsub := rowVals_sub q1 0 (min q.len len)
        rw [List.drop_zero] at qsub
        have hql : (q.sub 0 (min q.len len)).len = min q.len len := Row.sub_len _ _ _ (by omega)
        obtain ⟨s1, s2, s3⟩ := rowVals_splice h1 qsub hsp (by rw [hql]; omega)
        have hcsl : (vs.take (min q.len len)).length = min q.len len := by simp; omega
        have hsz : (P.info? te).map (·.size) = some 1 := by rw [i1]; simp [i2, g1]
        have hfit : off + i + (vs.take (min q.len len)).length ≤ cur.size := by
          rw [← Array.length_toList, hc]
          simp only [List.length_append]
          omega
        have hgo : (execOp a.eval o).run P w = .ok (.value (goInt (min q.len len : Nat))) (w.setRow b0 (splL cur.toList (off + i) (vs.take (min q.len len))).toArray) := by
          refine hrun _ _ ?_
          rcases q2 with rfl | ⟨ad, rfl, hsp', hcl⟩
          · have h0 : q.len = 0 := by rw [← hvl]; rfl
            rw [h0] at *
            simp only [Nat.zero_min, List.take_nil, splL, List.append_nil, List.length_nil, Nat.add_zero, List.take_append_drop, Array.toArray_toList]
            have hself : w.setRow b0 cur = w := setRow_self w b0 cur ee (0, 0) e2
            rw [hself]
            have hs1 : inf.size = 1 := by rw [i2, g1]
            have hn0 : ∀ x : Option Addr, (Builtin.firstCells 1 0 (.slice x 0 cap2)).run P w = .ok #[] w := by
              intro x
              cases x with
              | none => exact run_firstCells_none w 1 0 0 cap2
              | some ad => exact run_firstCells_some w 1 0 ad 0 cap2 [] rfl (by simp)
            have hmin : Nat.min 0 len = 0 := Nat.zero_min len
            simp [Builtin.copy_, run_underlying d1, Builtin.lenOf, sizeOf, typeInfo, i1, hs1, hn0, hmin, storeCells]
          · have hcp := run_copy_row (P := P) w t t' o.type te b0 (off + i) len cap ad q.len cap2 cur ee (vs.take (min q.len len)) d1 hsz e2 hcsl ?_ hfit ?_
            · rw [hcp, hcsl]
              simp [splL, hcsl]
            · intro j v hj
              rw [List.getElem?_take] at hj
              split at hj
              · exact hcl j v hj
              · cases hj
            · exact fun v hv => rowVals_one q1 v (List.mem_of_mem_take hv)
        refine ⟨φ, _, _, .inl hgo, ?_⟩
        have hl : (splL cur.toList (off + i) (vs.take (min q.len len))).length = cur.toList.length := splL_len _ _ _ (by simpa using hfit)
        refine h.after_upd hs (fun j hj => by cases hj) (restr_some hm) f1 e2 (setRow_heap w b0 cur _ ee _ e2) (by simpa using hl) (fun j hj => setRow_other w b0 j _ hj) rfl rfl rfl (by simp) ?_ (fun hd => ?_)
        · intro c' hmono hφ
          have hfl : i + (vs.take (min q.len len)).length ≤ mid.length := by omega
          have : (splL cur.toList (off + i) (vs.take (min q.len len))) = pre ++ splL mid i (vs.take (min q.len len)) ++ post := by
            rw [hc, ← hpl]
            exact splL_mid _ _ _ _ _ hfl
          have hC := CRel_mono hmono (fun j _ => by rw [hφ]; rfl) (hput (.agg n r') _ (agg_of_vals s1 (by omega) s3) (splL_len _ _ _ hfl) (fun _ => ⟨by intro gs; simp, by intro q; simp⟩))
          rw [← this] at hC
          exact hC
        · intro c' _ _
          refine ⟨?_, rfl⟩
          unfold inR; omega

/-! ### lengths, tuples, functions -/

theorem aLen_sound (hty : Γ.ty = tyOf P 8) {t ty : Nat} {x v : V} {u1 : Value} (tys : Array Nat) (ht : tys[0]? = some t) (hx : aLen Γ t x = some v) (hv : VRel c w x u1) :
    ∃ u, (Builtin.len_ tys ty #[u1]).run P w = .ok u w ∧ VRel c w v u := by
  have lim : ∀ {n : Nat}, n ≤ LIM → inR (n : Int) := by intro n hn; simp only [LIM] at hn; unfold inR; omega
  unfold aLen at hx
  split at hx
  · rename_i e hq
    rw [hty] at hq
    obtain ⟨_, te, d1, d2⟩ := tyOf_desc hq
    split at hx
    · cases hx
      obtain ⟨a', len, cap, rfl, rfl, hlc, hlim, _⟩ := inv_sl hv
      exact ⟨_, by simp [Builtin.len_, ht, run_underlying d1]; rfl, lim hlim, rfl⟩
    · cases hx
      obtain rfl := inv_nils hv
      exact ⟨_, by simp [Builtin.len_, ht, run_underlying d1]; rfl, by unfold inR; omega, rfl⟩
    · obtain ⟨h1, rfl⟩ := chkI_some hx
      obtain ⟨a', cap, rfl, _⟩ := inv_gr hv
      exact ⟨_, by simp [Builtin.len_, ht, run_underlying d1]; rfl, h1, rfl⟩
    · obtain ⟨h1, rfl⟩ := chkI_some hx
      obtain ⟨b, cap, _, rfl, _⟩ := inv_os hv
      exact ⟨_, by simp [Builtin.len_, ht, run_underlying d1]; rfl, h1, rfl⟩
    · cases hx
  · rename_i hq
    rw [hty] at hq
    obtain ⟨_, d1⟩ := tyOf_desc hq
    have d1 : P.underlying t = some .string := d1
    split at hx
    · cases hx
      obtain ⟨s, rfl, h1, h2⟩ := inv_s hv
      refine ⟨_, by simp [Builtin.len_, ht, run_underlying d1]; rfl, lim h2, ?_⟩
      rw [← h1, bytesOf_len]; rfl
    · cases hx
  · rename_i n e hq
    rw [hty] at hq
    obtain ⟨_, te, d1, d2, _⟩ := tyOf_desc hq
    obtain ⟨h1, rfl⟩ := chkI_some hx
    exact ⟨_, by simp [Builtin.len_, ht, run_underlying d1]; rfl, h1, rfl⟩
  · cases hx

theorem arrayAt_sound (hty : Γ.ty = tyOf P 8) {t n wd : Nat} {x v : V} {u1 : Value} (hq : Γ.ty t = some (.arr n (.u wd)))
    (hx : aS2a n x = some v) (hv : VRel c w x u1) : ∃ u, (Instr.arrayAt t u1).run P w = .ok u w ∧ VRel c w v u := by
  rw [hty] at hq
  obtain ⟨_, te, d1, d2, _⟩ := tyOf_desc hq
  unfold aS2a at hx
  split at hx
  · rename_i k f o i len
    obtain ⟨g1, g2⟩ := chk_some hx
    cases g2
    obtain ⟨b, cap, f1, rfl, _⟩ := inv_os hv
    exact ⟨_, by simp [Instr.arrayAt, run_underlying d1, show ¬ len < n by omega], b, f1, rfl⟩
  · rename_i k len
    obtain ⟨⟨g1, g0⟩, g2⟩ := chk_some hx
    cases g2
    obtain ⟨a', cap, rfl, hlc, hloc⟩ := inv_gr hv
    rcases hloc with ⟨rfl, rfl⟩ | ⟨b, cur, e, fr, f1, rfl, _⟩
    · omega
    · exact ⟨_, by simp [Instr.arrayAt, run_underlying d1, show ¬ len < n by omega], b, f1, rfl⟩
  · rename_i fr r
    obtain ⟨⟨g1, g0, g3⟩, g2⟩ := chk_some hx
    cases g2
    obtain ⟨a', len, cap, rfl, rfl, hlc, hlim, hok, hloc⟩ := inv_sl hv
    rcases hloc with h0 | ⟨blk, off, rfl, hrow⟩
    · omega
    · refine ⟨.pointer (some ⟨blk, off, none⟩), by simp [Instr.arrayAt, run_underlying d1, show ¬ r.len < n by omega], blk, off, by simp, ?_⟩
      cases fr with
      | false => exact hrow
      | true => exact rowAt_weak hrow
  · cases hx

end
end Go.Vm

/- What a function answers, and a call of it. -/
namespace Go.Vm
open Go
set_option linter.unusedVariables false

noncomputable def argV (j : Nat) : V → V
  | .ref f o c => .p (1000 + j) f o 0
  | .tup [.ref f o c, .i i, .i len] => .os (1000 + j) f o i.toNat len.toNat
  | v => v
noncomputable def argC : V → Option V
  | .ref _ _ c => some c
  | .tup [.ref _ _ c, .i _, .i _] => some c
  | _ => none
noncomputable def mem0 (ins : List V) : Nat → Option V := fun k => if k < 1000 then none else (ins[k - 1000]?).bind argC
noncomputable def st0 (n : Nat) (ins : List V) : St := { env := fun t => if t < ins.length then (ins[t]?).map (argV t) else none, mem := mem0 ins, n := n }

/-- the keys of the objects that were handed in -/
noncomputable def refKeys : Nat → List V → List Nat
  | _, [] => []
  | j, x :: xs => match argC x with
    | some _ => (1000 + j) :: refKeys (j + 1) xs
    | none => refKeys (j + 1) xs

structure Start (gl : Nat → Option Row) (w : World) (ext av : Nat → Prop) (φ : Nat → Option Nat) (ins : List V) (vs : List Value) : Prop where
  len : vs.length = ins.length
  arg : ∀ j x, ins[j]? = some x → ∃ u, vs[j]? = some u ∧ VRel (cxOf φ (mem0 ins) av w.heap.size) w (argV j x) u
  obj : ∀ k x, mem0 ins k = some x → ∃ b cur e, φ k = some b ∧ w.heap[b]? = some (.cells cur e (0, 0)) ∧ CRel (cxOf φ (mem0 ins) av w.heap.size) w cur.toList x
  inj : ∀ k k' x x' b, mem0 ins k = some x → mem0 ins k' = some x' → φ k = some b → φ k' = some b → k = k'
  own : ∀ k x b, mem0 ins k = some x → φ k = some b → ext b
  extav : ∀ b, ext b → av b
  avb : ∀ b, av b → b < w.heap.size
  glob : ∀ g r, gl g = some r → rowAt w (cxOf φ (mem0 ins) av w.heap.size) false g 0 r

theorem Start.rel {gl : Nat → Option Row} {w : World} {ext av : Nat → Prop} {φ : Nat → Option Nat} {ins : List V} {vs : List Value} (h : Start gl w ext av φ ins vs) {n : Nat} (hn : n ≤ 1000) (hl : ins.length ≤ n) :
    Rel gl w (fun k b => (mem0 ins k).isSome = true ∧ φ k = some b) av φ (st0 n ins) { tmps := vs.toArray ++ Array.replicate (n - vs.toArray.size) undef, defers := [] } w := by
  refine ⟨?_, rfl, fun t v ht => ?_, fun k x hk => .inl (h.obj k x hk), h.inj, fun k x b hk hb => .inr ⟨⟨Option.isSome_iff_exists.2 ⟨x, hk⟩, hb⟩, ?_⟩, hn, fun k b hb => ?_, h.avb, h.glob, Keep.refl _ _⟩
  · have := h.len
    simp [st0]; omega
  · simp only [st0] at ht
    by_cases hlt : t < ins.length
    · rw [if_pos hlt, List.getElem?_eq_getElem hlt] at ht
      cases ht
      obtain ⟨u, h1, h2⟩ := h.arg t _ (List.getElem?_eq_getElem hlt)
      have : (vs.toArray ++ Array.replicate (n - vs.toArray.size) undef).getD t undef = u := by
        have hv := (List.getElem?_eq_some_iff.1 h1).1
        rw [Array.getD_eq_getD_getElem?, Array.getElem?_append_left (by simpa using hv)]
        simp [h1]
      rw [this]
      exact h2
    · rw [if_neg hlt] at ht; cases ht
  · simp only [st0, mem0] at hk
    by_cases hlt : k < 1000
    · rw [if_pos hlt] at hk; cases hk
    · omega
  · obtain ⟨x, hx⟩ := Option.isSome_iff_exists.1 hb.1
    exact h.extav b (h.own k x b hx hb.2)

/-- where the answer's references lie -/
def dcx (φ : Nat → Option Nat) (av : Nat → Prop) (ret : V) (base : Nat) : Cx :=
  { φ := φ, N := fun b => av b ∨ ((newOf ret).isSome = true ∧ φ 0 = some b), base := base }

structure DoneAt (φ' : Nat → Option Nat) (w : World) (ext av : Nat → Prop) (φ : Nat → Option Nat) (ins : List V) (ret : V) (outs : List V) (v : Value) (w' : World) : Prop where
  keep : Keep ext w w'
  val : VRel (dcx φ' av ret w.heap.size) w' (outV 0 ret) v
  new : ∀ x, newOf ret = some x → ∃ b cur e, φ' 0 = some b ∧ w.heap.size ≤ b ∧ w'.heap[b]? = some (.cells cur e (0, 0)) ∧ CRel (dcx φ' av ret w.heap.size) w' cur.toList x
  out : ∀ (i k : Nat) (y : V), (refKeys 0 ins)[i]? = some k → outs[i]? = some y → ∃ b cur e, φ k = some b ∧ w'.heap[b]? = some (.cells cur e (0, 0)) ∧ CRel (dcx φ' av ret w.heap.size) w' cur.toList y

def Done (w : World) (ext av : Nat → Prop) (φ : Nat → Option Nat) (ins : List V) (ret : V) (outs : List V) (v : Value) (w' : World) : Prop :=
  ∃ φ', DoneAt φ' w ext av φ ins ret outs v w'

/-- function f answers as run says -/
def SoundFn (P : Program) (gl : Nat → Option Row) (f : Nat) (run : List V → Option (V × List V)) : Prop :=
  ∀ ins ret outs, run ins = some (ret, outs) → ∀ w ext av φ vs, Start gl w ext av φ ins vs →
    (∃ v w', (callFunc f vs.toArray).run P w = .ok (.value v) w' ∧ Done w ext av φ ins ret outs v w') ∨
    ((callFunc f vs.toArray).run P w = .ok (.enter f vs.toArray) w ∧ Calls P f vs.toArray w fun e w' => ∃ v, e = .returned v ∧ Done w ext av φ ins ret outs v w')

/-- an operation that calls a function, and the state behind it -/
def RunsC (P : Program) (gl : Nat → Option Row) (w0 : World) (ext : Nat → Nat → Prop) (av : Nat → Prop) (st' : St) (o : Oper) (a : Act) (w : World) : Prop :=
  Runs P gl w0 ext av st' o a w ∨
  ∃ f args, (execOp a.eval o).run P w = .ok (.enter f args) w ∧ Calls P f args w fun e w' => ∃ v, e = .returned v ∧ ∃ φ', Rel gl w0 ext av φ' st' (a.put o.dst v) w'

section
variable {P : Program} {gl : Nat → Option Row} {w0 : World} {ext : Nat → Nat → Prop} {av : Nat → Prop} {φ : Nat → Option Nat} {st st' : St} {a : Act} {w : World} {o : Oper} {Γ : Ctx}

theorem RunsC.wp (h : RunsC P gl w0 ext av st' o a w) {K : Act → World → Prop} {Q : Exit → Act → World → Prop} (hK : ∀ φ' a' w', Rel gl w0 ext av φ' st' a' w' → K a' w') : o.wp P a w K Q := by
  rcases h with h | ⟨f, args, hr, hc⟩
  · exact h.wp hK
  · unfold Oper.wp
    rw [hr]
    refine Calls.mono hc ?_
    rintro e w' ⟨v, rfl, φ', hrel⟩
    exact hK φ' _ _ hrel

/-! ### values that hold no reference -/

/-- what is told in one way is told in another, where the blocks that may be written are fewer -/
theorem rowAt_cx {c c' : Cx} {w : World} {f f' : Bool} (hN : ∀ b, b < w.heap.size → ¬ c.fr f b → ¬ c'.fr f' b) (hin : ∀ g, ∀ b, b < w.heap.size → ¬ c.fr g b → ¬ c'.fr g b) {blk off : Nat} {r : Row} (h : rowAt w c f blk off r) : rowAt w c' f' blk off r := by
  have k : ∀ {b o : Nat} {v : Value}, roCell w (c.fr f) b o v → roCell w (c'.fr f') b o v := fun h => ⟨hN _ (lt_of_cell h.2) h.1, h.2⟩
  have s : ∀ {g : Bool} {v : Value} {x : Bytes}, slB w (c.fr g) v x → slB w (c'.fr g) v x := by
    intro g v x ⟨a, len, cap, h1, h2, h3, h4, h5⟩
    refine ⟨a, len, cap, h1, h2, h3, h4, h5.imp id (fun ⟨blk, off, h6, h7⟩ => ⟨blk, off, h6, fun j y hy => ⟨hin g _ (lt_of_cell (h7 j y hy).2) (h7 j y hy).1, (h7 j y hy).2⟩⟩)⟩
  cases r with
  | u wd xs => exact ⟨h.1, fun j x hx => k (h.2 j x hx)⟩
  | i xs => exact fun j x hx => ⟨k (h j x hx).1, (h j x hx).2⟩
  | s xs => exact fun j x hx => let ⟨s, h1, h2⟩ := h j x hx; ⟨s, k h1, h2⟩
  | b g xs => exact fun j x hx => let ⟨v, h1, h2⟩ := h j x hx; ⟨v, k h1, s h2⟩
  | a xs => exact fun j x hx => let ⟨h1, h2, h3, h4, v, h5, h6⟩ := h j x hx; ⟨k h1, h2, k h3, h4, v, k h5, s h6⟩

theorem plain1_FRel {c c' : Cx} {w w' : World} {x : V} {cs : List Value} (hp : plain1 x = true) (h : FRel c w x cs) : FRel c' w' x cs := by
  cases x with
  | agg n r => cases r <;> exact h
  | u wd x => exact h
  | i n => exact h
  | b x => exact h
  | s bs => exact h
  | nilp => exact h
  | _ => cases hp

theorem plainC_CRel {c c' : Cx} {w w' : World} {x : V} {cs : List Value} (hp : plainC x = true) (h : CRel c w cs x) : CRel c' w' cs x := by
  cases x with
  | row r => cases r <;> first | exact h | cases hp
  | st fs =>
    obtain ⟨css, h1, h2⟩ := h
    simp only [plainC, List.all_eq_true] at hp
    exact ⟨css, h1, All2.mono_mem (fun x hx b hb => plain1_FRel (hp x hx) hb) h2⟩
  | agg n r => exact plain1_FRel (x := .agg n r) hp h
  | u wd x => exact h
  | i n => exact h
  | b x => exact h
  | s bs => exact h
  | nilp => exact h
  | _ => cases hp

theorem plain1_keys {x : V} (hp : plain1 x = true) : x.keys = [] ∧ x.keys1 = [] := by
  cases x <;> first | exact ⟨rfl, rfl⟩ | cases hp

theorem plainC_keys {x : V} (hp : plainC x = true) : x.keys = [] := by
  cases x with
  | st fs =>
    simp only [plainC, List.all_eq_true] at hp
    simp only [V.keys, List.flatMap_eq_nil_iff]
    exact fun x hx => (plain1_keys (hp x hx)).2
  | row r => rfl
  | _ => first | rfl | cases hp

/-- how an answer is told on the caller's side -/
structure Turn (c c' : Cx) (w : World) (d : Nat) (old : Bool) : Prop where
  new : c'.φ d = c.φ 0
  fr : ∀ b, b < w.heap.size → ¬ c.fr true b → ¬ c'.fr true b
  ro : old = true → ∀ b, b < w.heap.size → ¬ c.N b → ¬ c'.N b

theorem slR_turn {c c' : Cx} {w : World} {d : Nat} {old f : Bool} {r : Row} {v : Value} (t : Turn c c' w d old) (ho : old1 (.sl f r) = true → old = true) (h : slR w c f v r) : slR w c' f v r := by
  obtain ⟨a, len, cap, h1, h2, h3, h4, h5, h6⟩ := h
  refine ⟨a, len, cap, h1, h2, h3, h4, h5, h6.imp id (fun ⟨blk, off, h7, h8⟩ => ⟨blk, off, h7, ?_⟩)⟩
  cases f with
  | false =>
    have ho' : old = true := ho rfl
    refine rowAt_cx (f := false) (f' := false) (fun b hb hn => t.ro ho' b hb hn) (fun g b hb hn => ?_) h8
    cases g with
    | false => exact t.ro ho' b hb hn
    | true => exact t.fr b hb hn
  | true =>
    by_cases hold : old = true
    · refine rowAt_cx (f := true) (f' := true) (fun b hb hn => t.fr b hb hn) (fun g b hb hn => ?_) h8
      cases g with
      | false => exact t.ro hold b hb hn
      | true => exact t.fr b hb hn
    · have k : ∀ {b o : Nat} {v : Value}, roCell w (c.fr true) b o v → roCell w (c'.fr true) b o v := fun h => ⟨t.fr _ (lt_of_cell h.2) h.1, h.2⟩
      cases r with
      | u wd xs => exact ⟨h8.1, fun j x hx => k (h8.2 j x hx)⟩
      | i xs => exact fun j x hx => ⟨k (h8 j x hx).1, (h8 j x hx).2⟩
      | s xs => exact fun j x hx => let ⟨s, h1, h2⟩ := h8 j x hx; ⟨s, k h1, h2⟩
      | b g xs =>
        cases g with
        | false => exact absurd (ho rfl) hold
        | true =>
          refine fun j x hx => ?_
          obtain ⟨v, h1, a, len, cap, e1, e2, e3, e4, e5⟩ := h8 j x hx
          exact ⟨v, k h1, a, len, cap, e1, e2, e3, e4, e5.imp id (fun ⟨blk, off, h6, h7⟩ => ⟨blk, off, h6, fun j y hy => k (h7 j y hy)⟩)⟩
      | a xs => exact absurd (ho rfl) hold

theorem FRel_turn {c c' : Cx} {w : World} {d : Nat} {old : Bool} {x : V} {cs : List Value} (t : Turn c c' w d old) (hr : ret1 x = true) (ho : old1 x = true → old = true) (h : FRel c w (outV1 0 x) cs) : FRel c' w (outV1 d x) cs := by
  cases x with
  | sl f r => obtain ⟨v, h1, h2⟩ := h; exact ⟨v, h1, slR_turn t ho h2⟩
  | nils => exact h
  | ref f o x => obtain ⟨b, h1, h2⟩ := h; exact ⟨b, t.new.trans h1, h2⟩
  | agg n r => exact plain1_FRel (x := .agg n r) rfl h
  | u wd x => exact h
  | i n => exact h
  | b x => exact h
  | s bs => exact h
  | nilp => exact h
  | _ => cases hr

theorem VRel_turn {c c' : Cx} {w : World} {d : Nat} {x : V} {v : Value} (t : Turn c c' w d x.old) (hr : retOK x = true) (h : VRel c w (outV 0 x) v) : VRel c' w (outV d x) v := by
  cases x with
  | tup xs =>
    obtain ⟨vs, h1, h2⟩ := h
    refine ⟨vs, h1, ?_⟩
    simp only [retOK, List.all_eq_true] at hr
    have ho : ∀ x ∈ xs, old1 x = true → (V.tup xs).old = true := fun x hx h => by simp only [V.old, List.any_eq_true]; exact ⟨x, hx, h⟩
    generalize (V.tup xs).old = old at t ho
    revert h2
    generalize vs.toList = us
    clear h1
    induction xs generalizing us with
    | nil => intro h2; cases us <;> exact h2
    | cons x xs ih =>
      intro h2
      cases us with
      | nil => exact h2
      | cons u us =>
        refine ⟨?_, ih (fun x hx => hr x (by simp [hx])) (fun x hx => ho x (by simp [hx])) us h2.2⟩
        have hx := hr x (by simp)
        have hox := ho x (by simp)
        rcases h2.1 with ⟨n, r, cs, e1, e2, e3⟩ | ⟨e1, e2⟩
        · left
          cases x <;> first | (cases e1; done) | skip
          rename_i m q
          cases e1
          exact ⟨n, r, cs, rfl, e2, plain1_FRel (x := .agg n r) rfl e3⟩
        · right
          refine ⟨?_, FRel_turn t hx hox e2⟩
          intro n r hh
          cases x <;> simp [outV1] at hh e1
  | st fs =>
    obtain ⟨cs, css, h1, h2, h3⟩ := h
    simp only [retOK, List.all_eq_true] at hr
    have ho : ∀ x ∈ fs, old1 x = true → (V.st fs).old = true := fun x hx h => by simp only [V.old, List.any_eq_true]; exact ⟨x, hx, h⟩
    refine ⟨cs, css, h1, h2, All2.mono_mem (fun x hx b hb => ?_) h3⟩
    have hrx := hr x hx
    cases x with
    | sl f r => obtain ⟨v, h1, h2⟩ := hb; exact ⟨v, h1, slR_turn t (ho _ hx) h2⟩
    | nils => exact hb
    | _ => exact plain1_FRel hrx hb
  | agg n r => obtain ⟨cs, h1, h2⟩ := h; exact ⟨cs, h1, plain1_FRel (x := .agg n r) rfl h2⟩
  | sl f r => exact FRel_turn (x := .sl f r) t hr (fun h => h) h
  | nils => exact h
  | ref f o y => exact FRel_turn (x := .ref f o y) t hr (fun h => h) h
  | u wd x => exact h
  | i n => exact h
  | b x => exact h
  | s bs => exact h
  | nilp => exact h
  | _ => cases hr

end
end Go.Vm

/- A call, against the model. -/
namespace Go.Vm
open Go
set_option linter.unusedVariables false

theorem ro_len (r : Row) : r.ro.len = r.len := by cases r <;> rfl
theorem ro_ok {r : Row} (h : okR r) : okR r.ro := by cases r <;> exact h

section
variable {P : Program} {gl : Nat → Option Row} {w0 : World} {ext : Nat → Nat → Prop} {av : Nat → Prop} {φ : Nat → Option Nat} {st st' : St} {a : Act} {w : World} {o : Oper} {Γ : Ctx}

/-- the reading side of a row that was handed on -/
theorem rowAt_ro {c c' : Cx} {w : World} {f : Bool} (hN : ∀ b, b < w.heap.size → ¬ c.N b → ¬ c'.N b) {blk off : Nat} {r : Row} (h : rowAt w c f blk off r) : rowAt w c' false blk off r.ro := by
  have k : ∀ {b o : Nat} {v : Value}, roCell w (c.fr f) b o v → roCell w (c'.fr false) b o v := fun h => ⟨hN _ (lt_of_cell h.2) (fr_N f h.1), h.2⟩
  have s : ∀ {g : Bool} {v : Value} {x : Bytes}, slB w (c.fr g) v x → slB w (c'.fr false) v x := by
    intro g v x ⟨a, len, cap, h1, h2, h3, h4, h5⟩
    refine ⟨a, len, cap, h1, h2, h3, h4, h5.imp id (fun ⟨blk, off, h6, h7⟩ => ⟨blk, off, h6, fun j y hy => ⟨hN _ (lt_of_cell (h7 j y hy).2) (fr_N g (h7 j y hy).1), (h7 j y hy).2⟩⟩)⟩
  cases r with
  | u wd xs => exact ⟨h.1, fun j x hx => k (h.2 j x hx)⟩
  | i xs => exact fun j x hx => ⟨k (h j x hx).1, (h j x hx).2⟩
  | s xs => exact fun j x hx => let ⟨s, h1, h2⟩ := h j x hx; ⟨s, k h1, h2⟩
  | b g xs => exact fun j x hx => let ⟨v, h1, h2⟩ := h j x hx; ⟨v, k h1, s h2⟩
  | a xs => exact fun j x hx => let ⟨h1, h2, h3, h4, v, h5, h6⟩ := h j x hx; ⟨k h1, h2, k h3, h4, v, k h5, s h6⟩

theorem slR_ro {c c' : Cx} {w : World} {f : Bool} (hN : ∀ b, b < w.heap.size → ¬ c.N b → ¬ c'.N b) {v : Value} {r : Row} (h : slR w c f v r) : slR w c' false v r.ro := by
  obtain ⟨a, len, cap, h1, h2, h3, h4, h5, h6⟩ := h
  exact ⟨a, len, cap, h1, by rw [ro_len]; exact h2, h3, by rw [ro_len]; exact h4, ro_ok h5, by rw [ro_len]; exact h6.imp id (fun ⟨blk, off, h7, h8⟩ => ⟨blk, off, h7, rowAt_ro hN h8⟩)⟩

/-- an own slice that is handed on to be read -/
theorem reads_ro {c c' : Cx} {w : World} {v : Value} {r : Row} (h : Reads c w v r) (hN : ∀ b, b < w.heap.size → ¬ c.N b → ¬ c'.N b) (hb : ∀ ad len cap, v = .slice (some ad) len cap → ¬ c'.N ad.block) (hl : r.len ≤ LIM) :
    slR w c' false v r.ro := by
  obtain ⟨x, cap, rfl, h1, vs, h2, h3⟩ := h
  have hvl := rowVals_len h2
  refine ⟨x, r.len, cap, rfl, (ro_len r).symm, h1, by rw [ro_len]; exact hl, ro_ok (vals_ok h2), ?_⟩
  rw [ro_len]
  rcases h3 with rfl | ⟨ad, rfl, h4, h5⟩
  · exact .inl (by rw [← hvl]; rfl)
  · obtain ⟨blk, off, spot⟩ := ad
    simp only at h4
    subst h4
    refine .inr ⟨blk, off, rfl, ?_⟩
    have hcell : ∀ j u, vs[j]? = some u → roCell w (c'.fr false) blk (off + j) u := fun j u hu => ⟨hb _ _ _ rfl, by have := h5 j u hu; rwa [addr_add] at this⟩
    have : rowVals c' w r.ro vs := by
      cases r with
      | u wd xs => exact h2
      | i xs => exact h2
      | s xs => exact h2
      | b g xs =>
        refine All2.mono (fun x v hh => ?_) h2
        obtain ⟨a, len, cap, e1, e2, e3, e4, e5⟩ := hh
        exact ⟨a, len, cap, e1, e2, e3, e4, e5.imp id (fun ⟨blk, off, h6, h7⟩ => ⟨blk, off, h6, fun j y hy => ⟨hN _ (lt_of_cell (h7 j y hy).2) (fr_N g (h7 j y hy).1), (h7 j y hy).2⟩⟩)⟩
      | a xs => exact h2
    exact rowAt_of_vals this hcell

theorem lookN_zip : ∀ {ks : List Nat} {outs : List V} {k : Nat} {x : V}, lookN k (ks.zip outs) = some x → ∃ i : Nat, ks[i]? = some k ∧ outs[i]? = some x
  | [], _, k, x, h => by simp [lookN] at h
  | _ :: _, [], k, x, h => by simp [lookN] at h
  | q :: ks, y :: outs, k, x, h => by
    simp only [List.zip_cons_cons, lookN] at h
    by_cases e : q = k
    · rw [if_pos e] at h; cases h; subst e; exact ⟨0, by simp, by simp⟩
    · rw [if_neg e] at h
      obtain ⟨i, h1, h2⟩ := lookN_zip h
      exact ⟨i + 1, by simpa using h1, by simpa using h2⟩

theorem lookN_zip_none : ∀ {ks : List Nat} {outs : List V} {k : Nat}, outs.length = ks.length → lookN k (ks.zip outs) = none → k ∉ ks
  | [], _, k, _, h => by simp
  | _ :: _, [], k, hl, h => by simp at hl
  | q :: ks, y :: outs, k, hl, h => by
    simp only [List.zip_cons_cons, lookN] at h
    by_cases e : q = k
    · rw [if_pos e] at h; cases h
    · rw [if_neg e] at h
      have := lookN_zip_none (by simpa using hl) h
      simp only [List.mem_cons, not_or]
      exact ⟨fun x => e x.symm, this⟩

theorem inV_ref {rs : Bool} {M : Nat → Option V} {x y : V} (h : inV rs M x = some y) : ∀ k, refKey rs x = some k → ∃ c, M k = some c ∧ plainC c = true ∧ argC y = some c := by
  intro k hk
  cases x with
  | p k' f o i =>
    cases hk
    simp only [inV] at h
    cases hm : M k with
    | none => rw [hm] at h; cases h
    | some c =>
      rw [hm] at h
      obtain ⟨⟨h1, h2⟩, h3⟩ := chk_some h
      cases h3
      exact ⟨c, rfl, h2, rfl⟩
  | os k' f o i len =>
    simp only [refKey] at hk
    split at hk
    · cases hk
      rename_i hrs
      simp only [inV, if_pos hrs] at h
      cases hm : M k with
      | none => rw [hm] at h; cases h
      | some c =>
        rw [hm] at h
        obtain ⟨h2, h3⟩ := chk_some h
        cases h3
        exact ⟨c, rfl, h2, rfl⟩
    · cases hk
  | _ => cases hk

theorem inV_noref {rs : Bool} {M : Nat → Option V} {x y : V} (h : inV rs M x = some y) (hk : refKey rs x = none) : argC y = none := by
  cases x with
  | p k' f o i => cases hk
  | os k' f o i len =>
    simp only [refKey] at hk
    split at hk
    · cases hk
    · rename_i hrs
      simp only [inV, if_neg hrs] at h
      split at h
      · have := (chk_some h).2; cases this; rfl
      · cases h
  | gr k len =>
    simp only [inV] at h
    split at h
    · have := (chk_some h).2; cases this; rfl
    · cases h
  | st fs => have := (chk_some h).2; cases this; rfl
  | clo g caps =>
    simp only [inV] at h
    split at h <;> cases h
    rfl
  | _ => cases h <;> rfl

theorem inV_ro {rs : Bool} {M : Nat → Option V} {x y : V} (h : inV rs M x = some y) : ∀ k, roKey rs x = some k → ∃ c, M k = some c := by
  intro k hk
  cases x with
  | gr k' len =>
    cases hk
    simp only [inV, rowOf] at h
    cases hm : M k with
    | none => rw [hm] at h; cases h
    | some c => exact ⟨c, rfl⟩
  | os k' f o i len =>
    simp only [roKey] at hk
    split at hk
    · cases hk
    · cases hk
      rename_i hrs
      simp only [inV, if_neg hrs, rowOf] at h
      cases hm : M k with
      | none => rw [hm] at h; cases h
      | some c => exact ⟨c, rfl⟩
  | _ => cases hk

/-- the keys handed in, on both sides -/
theorem refKeys_at {rs : Bool} {M : Nat → Option V} : ∀ {all ins : List V} {j0 : Nat}, mapO (inV rs M) all = some ins →
    (refKeys j0 ins).length = (all.filterMap (refKey rs)).length ∧ ∀ (i k : Nat), (all.filterMap (refKey rs))[i]? = some k → ∃ (j : Nat) (x : V), (refKeys j0 ins)[i]? = some (1000 + (j0 + j)) ∧ all[j]? = some x ∧ refKey rs x = some k
  | [], ins, j0, h => by cases h; exact ⟨rfl, fun i k h => by simp at h⟩
  | x :: all, ins, j0, h => by
    simp only [mapO] at h
    cases hx : inV rs M x with
    | none => rw [hx] at h; cases h
    | some y =>
      rw [hx] at h
      cases hm : mapO (inV rs M) all with
      | none => rw [hm] at h; cases h
      | some ys =>
        rw [hm] at h
        cases h
        obtain ⟨k1, k2⟩ := refKeys_at (j0 := j0 + 1) hm
        cases hk : refKey rs x with
        | none =>
          have hc := inV_noref hx hk
          simp only [refKeys, hc, List.filterMap_cons, hk]
          refine ⟨k1, fun i k hi => ?_⟩
          obtain ⟨j, z, e1, e2, e3⟩ := k2 i k hi
          exact ⟨j + 1, z, by rw [e1]; congr 2; omega, by simpa using e2, e3⟩
        | some k0 =>
          obtain ⟨c, _, _, hc⟩ := inV_ref hx k0 hk
          simp only [refKeys, hc, List.filterMap_cons, hk]
          refine ⟨by simp [k1], fun i k hi => ?_⟩
          cases i with
          | zero => simp at hi; subst hi; exact ⟨0, x, by simp, by simp, hk⟩
          | succ i =>
            obtain ⟨j, z, e1, e2, e3⟩ := k2 i k (by simpa using hi)
            exact ⟨j + 1, z, by simp only [List.getElem?_cons_succ]; rw [e1]; congr 2; omega, by simpa using e2, e3⟩

theorem nodupN_at {α : Type} (g : α → Option Nat) : ∀ {all : List α}, nodupN (all.filterMap g) = true → ∀ (i j : Nat) (x y : α) (k : Nat), all[i]? = some x → all[j]? = some y → g x = some k → g y = some k → i = j
  | [], _, i, j, x, y, k, hi, _, _, _ => by simp at hi
  | z :: all, hn, i, j, x, y, k, hi, hj, hx, hy => by
    have hmem : ∀ (j : Nat) (y : α), all[j]? = some y → g y = some k → k ∈ all.filterMap g := fun j y hj hy => List.mem_filterMap.2 ⟨y, List.mem_of_getElem? hj, hy⟩
    cases hz : g z with
    | none =>
      simp only [List.filterMap_cons, hz] at hn
      cases i with
      | zero => simp at hi; subst hi; rw [hz] at hx; cases hx
      | succ i => cases j with
        | zero => simp at hj; subst hj; rw [hz] at hy; cases hy
        | succ j => rw [nodupN_at g hn i j x y k (by simpa using hi) (by simpa using hj) hx hy]
    | some q =>
      simp only [List.filterMap_cons, hz, nodupN, Bool.and_eq_true] at hn
      have hq : q ∉ all.filterMap g := by simpa using hn.1
      cases i with
      | zero => cases j with
        | zero => rfl
        | succ j =>
          simp at hi; subst hi
          rw [hz] at hx; cases hx
          exact absurd (hmem j y (by simpa using hj) hy) hq
      | succ i => cases j with
        | zero =>
          simp at hj; subst hj
          rw [hz] at hy; cases hy
          exact absurd (hmem i x (by simpa using hi) hx) hq
        | succ j => rw [nodupN_at g hn.2 i j x y k (by simpa using hi) (by simpa using hj) hx hy]

end
end Go.Vm

/- A call of a function that answers as it is told. -/
namespace Go.Vm
open Go
set_option linter.unusedVariables false

section
variable {P : Program} {gl : Nat → Option Row} {w0 : World} {ext : Nat → Nat → Prop} {av : Nat → Prop} {φ : Nat → Option Nat} {st st' : St} {a : Act} {w : World} {o : Oper} {Γ : Ctx}

noncomputable def phiC (φ : Nat → Option Nat) (rs : Bool) (all : List V) : Nat → Option Nat := fun k => if k < 1000 then none else ((all[k - 1000]?).bind (refKey rs)).bind φ
def extC (φ : Nat → Option Nat) (rs : Bool) (all : List V) : Nat → Prop := fun b => ∃ k ∈ all.filterMap (refKey rs), φ k = some b
def avC (N : Nat → Prop) (φ : Nat → Option Nat) (rs : Bool) (all : List V) : Nat → Prop := fun b => N b ∧ ¬ ∃ k ∈ all.filterMap (roKey rs), φ k = some b

theorem mapO_at {α β : Type} {f : α → Option β} {as : List α} {bs : List β} (h : mapO f as = some bs) (j : Nat) (b : β) (hb : bs[j]? = some b) : ∃ a, as[j]? = some a ∧ f a = some b := by
  obtain ⟨h1, h2⟩ := mapO_get h
  have hlt : j < as.length := by rw [← h1]; exact (List.getElem?_eq_some_iff.1 hb).1
  obtain ⟨b', h3, h4⟩ := h2 j _ (List.getElem?_eq_getElem hlt)
  rw [hb] at h4
  cases h4
  exact ⟨_, List.getElem?_eq_getElem hlt, h3⟩

theorem call_start (h : Rel gl w0 ext av φ st a w) (hro : ∀ g r, gl g = some r → r.ro = r) {rs : Bool} {M : Nat → Option V} (hM : ∀ k x, M k = some x → st.mem k = some x) {all ins : List V} {us : List Value}
    (hin : mapO (inV rs M) all = some ins) (hv : All2 (VRel (cxOf φ st.mem av w0.heap.size) w) all us)
    (hnd : nodupN (all.filterMap (refKey rs)) = true) (hdis : (all.filterMap (refKey rs)).all (fun k => !(all.filterMap (roKey rs)).contains k) = true) :
    Start gl w (extC φ rs all) (avC (cxOf φ st.mem av w0.heap.size).N φ rs all) (phiC φ rs all) ins us := by
  have hext : ∀ b, extC φ rs all b → avC (cxOf φ st.mem av w0.heap.size).N φ rs all b := by
    rintro b ⟨k, hk, hb⟩
    obtain ⟨x, hx, hkx⟩ := List.mem_filterMap.1 hk
    obtain ⟨j, hj⟩ := List.getElem?_of_mem hx
    obtain ⟨_, h2⟩ := mapO_get hin
    obtain ⟨y, hy, _⟩ := h2 j x hj
    obtain ⟨c, hc, _⟩ := inV_ref hy k hkx
    refine ⟨.inl ⟨k, c, hM k c hc, hb⟩, ?_⟩
    rintro ⟨k', hk', hb'⟩
    obtain ⟨x', hx', hkx'⟩ := List.mem_filterMap.1 hk'
    obtain ⟨j', hj'⟩ := List.getElem?_of_mem hx'
    obtain ⟨y', hy', _⟩ := h2 j' x' hj'
    obtain ⟨c', hc'⟩ := inV_ro hy' k' hkx'
    have := h.inj k k' c c' b (hM _ _ hc) (hM _ _ hc') hb hb'
    subst this
    rw [List.all_eq_true] at hdis
    have := hdis k hk
    simp only [Bool.not_eq_true', List.contains_eq_mem, decide_eq_false_iff_not] at this
    exact this hk'
  have hobj : ∀ k x, mem0 ins k = some x → ∃ k' y, phiC φ rs all k = φ k' ∧ st.mem k' = some x ∧ plainC x = true ∧ all[k - 1000]? = some y ∧ refKey rs y = some k' ∧ 1000 ≤ k := by
    intro k x hk
    unfold mem0 at hk
    by_cases hlt : k < 1000
    · rw [if_pos hlt] at hk; cases hk
    · rw [if_neg hlt, Option.bind_eq_some_iff] at hk
      obtain ⟨y, hy, hc⟩ := hk
      obtain ⟨z, hz, hzy⟩ := mapO_at hin _ y hy
      cases hkz : refKey rs z with
      | none => rw [inV_noref hzy hkz] at hc; cases hc
      | some k' =>
        obtain ⟨c, h1, h2, h3⟩ := inV_ref hzy k' hkz
        rw [hc] at h3
        cases h3
        exact ⟨k', z, by simp [phiC, hlt, hz, hkz], hM _ _ h1, h2, hz, hkz, by omega⟩
  have hown : ∀ k x b, mem0 ins k = some x → phiC φ rs all k = some b → extC φ rs all b := by
    intro k x b hk hb
    obtain ⟨k', y, h1, h2, h3, h4, h5, _⟩ := hobj k x hk
    exact ⟨k', List.mem_filterMap.2 ⟨y, List.mem_of_getElem? h4, h5⟩, by rw [← h1]; exact hb⟩
  have hNN : ∀ b, (cxOf (phiC φ rs all) (mem0 ins) (avC (cxOf φ st.mem av w0.heap.size).N φ rs all) w.heap.size).N b → avC (cxOf φ st.mem av w0.heap.size).N φ rs all b := by
    rintro b (⟨k, x, hk, hb⟩ | hb)
    · exact hext b (hown k x b hk hb)
    · exact hb
  have hN : ∀ b, b < w.heap.size → ¬ (cxOf φ st.mem av w0.heap.size).N b → ¬ (cxOf (phiC φ rs all) (mem0 ins) (avC (cxOf φ st.mem av w0.heap.size).N φ rs all) w.heap.size).N b :=
    fun b _ hn hc => hn (hNN b hc).1
  refine ⟨by rw [← All2.length hv]; exact (mapO_get hin).1.symm, ?_, ?_, ?_, hown, hext, fun b hb => N_lt h hb.1, fun g r hg => by have := rowAt_ro (f := false) hN (h.glob g r hg); rwa [hro g r hg] at this⟩
  · intro j y hy
    obtain ⟨x, hx, hxy⟩ := mapO_at hin j y hy
    obtain ⟨u, hu, hxu⟩ := All2.get hv j x hx
    refine ⟨u, hu, ?_⟩
    have hphi : ∀ k, refKey rs x = some k → phiC φ rs all (1000 + j) = φ k := by
      intro k hk
      have : ¬ (1000 + j < 1000) := by omega
      simp only [phiC, if_neg this, Nat.add_sub_cancel_left, hx, Option.bind_some, hk]
    cases x with
    | nils =>
      cases hxy
      obtain rfl := inv_nils hxu
      exact ⟨_, rfl, none, 0, 0, rfl, rfl, Nat.le_refl _, Nat.zero_le _, .inl rfl, .inl rfl⟩
    | sl f r => cases hxy; exact ⟨u, rfl, slR_ro hN (inv_sl hxu)⟩
    | gr k len =>
      simp only [inV] at hxy
      cases hr : rowOf M (.gr k len) with
      | none => rw [hr] at hxy; cases hxy
      | some r =>
        rw [hr] at hxy
        obtain ⟨h1, h2⟩ := chk_some hxy
        cases h2
        have hr' : rowOf st.mem (.gr k len) = some r := by
          simp only [rowOf] at hr ⊢
          cases hm : M k with
          | none => rw [hm] at hr; cases hr
          | some y => rw [hm] at hr; rw [hM _ _ hm]; exact hr
        obtain ⟨a', cap, e1, e2, e3⟩ := inv_gr hxu
        refine ⟨u, rfl, reads_ro (rowOf_reads h hr' hxu) hN (fun ad len' cap' e hc => ?_) (by omega)⟩
        rw [e1] at e
        cases e
        rcases e3 with ⟨e4, _⟩ | ⟨b, cur, ee, fr, e4, e5, _⟩
        · cases e4
        · cases e5
          exact (hNN _ hc).2 ⟨k, List.mem_filterMap.2 ⟨_, List.mem_of_getElem? hx, rfl⟩, e4⟩
    | os k f o i len =>
      simp only [inV] at hxy
      by_cases hrs : rs = true
      · simp only [if_pos hrs] at hxy
        cases hm : M k with
        | none => rw [hm] at hxy; cases hxy
        | some c =>
          rw [hm] at hxy
          obtain ⟨h1, h2⟩ := chk_some hxy
          cases h2
          obtain ⟨b, cap, e1, e2, e3, cur, ee, fr, e4, e5⟩ := inv_os' hxu
          exact ⟨b, cap, (hphi k (by simp [refKey, hrs])).trans e1, by simp [e2], by simpa using e3, cur, ee, fr, e4, by simpa using e5⟩
      · simp only [if_neg hrs] at hxy
        cases hr : rowOf M (.os k f o i len) with
        | none => rw [hr] at hxy; cases hxy
        | some r =>
          rw [hr] at hxy
          obtain ⟨h1, h2⟩ := chk_some hxy
          cases h2
          have hr' : rowOf st.mem (.os k f o i len) = some r := by
            simp only [rowOf] at hr ⊢
            cases hm : M k with
            | none => rw [hm] at hr; cases hr
            | some y => rw [hm] at hr; rw [hM _ _ hm]; exact hr
          obtain ⟨b, cap, e1, e2, e3⟩ := inv_os hxu
          refine ⟨u, rfl, reads_ro (rowOf_reads h hr' hxu) hN (fun ad len' cap' e hc => ?_) (by omega)⟩
          rw [e2] at e
          cases e
          exact (hNN _ hc).2 ⟨k, List.mem_filterMap.2 ⟨_, List.mem_of_getElem? hx, by simp [roKey, hrs]⟩, e1⟩
    | p k f o i =>
      simp only [inV] at hxy
      cases hm : M k with
      | none => rw [hm] at hxy; cases hxy
      | some c =>
        rw [hm] at hxy
        obtain ⟨⟨h0, h1⟩, h2⟩ := chk_some hxy
        cases h2
        subst h0
        obtain ⟨b, e1, e2⟩ := inv_p hxu
        exact ⟨b, (hphi k rfl).trans e1, by rw [e2]⟩
    | st fs =>
      obtain ⟨h1, h2⟩ := chk_some hxy
      cases h2
      obtain ⟨cs, css, e1, e2, e3⟩ := hxu
      rw [List.all_eq_true] at h1
      exact ⟨cs, css, e1, e2, All2.mono_mem (fun x hx b hb => plain1_FRel (h1 x hx) hb) e3⟩
    | clo g caps =>
      cases caps with
      | nil => cases hxy; obtain ⟨vs, e1, e2⟩ := hxu; exact ⟨vs, e1, by cases hvv : vs.toList with | nil => trivial | cons _ _ => rw [hvv] at e2; exact e2.elim⟩
      | cons _ _ => cases hxy
    | agg n r => cases hxy; obtain ⟨cs, e1, e2⟩ := hxu; exact ⟨cs, e1, plain1_FRel (x := .agg n r) rfl e2⟩
    | u wd x => cases hxy; exact hxu
    | i n => cases hxy; exact hxu
    | b x => cases hxy; exact hxu
    | s bs => cases hxy; exact hxu
    | nilp => cases hxy; exact hxu
    | _ => cases hxy
  · intro k x hk
    obtain ⟨k', y, h1, h2, h3, h4, h5, _⟩ := hobj k x hk
    rcases h.mem k' x h2 with ⟨b, cur, e, e1, e2, e3⟩ | ⟨e1, _⟩
    · exact ⟨b, cur, e, h1.trans e1, e2, plainC_CRel h3 e3⟩
    · exfalso
      obtain ⟨u, hu, hyu⟩ := All2.get hv _ y h4
      cases y with
      | p k2 f o i => cases h5; obtain ⟨b, e2, _⟩ := inv_p hyu; have : (none : Option Nat) = some b := e1.symm.trans e2; cases this
      | os k2 f o i len =>
        simp only [refKey] at h5
        split at h5
        · cases h5; obtain ⟨b, cap, e2, _⟩ := inv_os hyu; have : (none : Option Nat) = some b := e1.symm.trans e2; cases this
        · cases h5
      | _ => cases h5
  · intro k k' x x' b hk hk' hb hb'
    obtain ⟨q, y, h1, h2, h3, h4, h5, h6⟩ := hobj k x hk
    obtain ⟨q', y', h1', h2', h3', h4', h5', h6'⟩ := hobj k' x' hk'
    have hq := h.inj q q' x x' b h2 h2' (by rw [← h1]; exact hb) (by rw [← h1']; exact hb')
    subst hq
    have := nodupN_at (refKey rs) hnd (k - 1000) (k' - 1000) y y' q h4 h4' h5 h5'
    omega

theorem retOK_keys {d : Nat} {x : V} (h : retOK x = true) : ∀ k ∈ (outV d x).keys, k = d := by
  have one : ∀ {y : V}, ret1 y = true → ∀ k ∈ (outV1 d y).keys1, k = d := by
    intro y hy k hk
    cases y with
    | ref f o c => simpa [outV1, V.keys1] using hk
    | _ => first | (simp [outV1, V.keys1] at hk; done) | cases hy
  cases x with
  | tup xs =>
    simp only [retOK, List.all_eq_true] at h
    intro k hk
    simp only [outV, V.keys, List.mem_flatMap, List.mem_map] at hk
    obtain ⟨y, ⟨z, hz, rfl⟩, hk⟩ := hk
    exact one (h z hz) k hk
  | st fs =>
    simp only [retOK, List.all_eq_true] at h
    intro k hk
    simp only [outV, outV1, V.keys, List.mem_flatMap] at hk
    obtain ⟨y, hy, hk⟩ := hk
    have := h y hy
    cases y <;> first | (simp [V.keys1] at hk; done) | (simp at this; done) | cases this
  | ref f o c => intro k hk; simpa [outV, outV1, V.keys, V.keys1] using hk
  | _ => intro k hk; first | (simp [outV, outV1, V.keys, V.keys1] at hk; done) | cases h

theorem newOf_plain {ret x : V} (h : retOK ret = true) (hn : newOf ret = some x) : plainC x = true := by
  have one : ∀ {y : V}, ret1 y = true → newOf1 y = some x → plainC x = true := by
    intro y hy hk
    cases y with
    | ref f o c => cases hk; exact hy
    | _ => cases hk
  cases ret with
  | tup xs =>
    simp only [retOK, List.all_eq_true] at h
    simp only [newOf] at hn
    have := List.mem_of_mem_head? hn
    obtain ⟨y, hy, hk⟩ := List.mem_filterMap.1 this
    exact one (h y hy) hk
  | st fs => cases hn
  | ref f o c => cases hn; exact h
  | _ => cases hn

theorem retOK_nokeys {x : V} (h : retOK x = true) (hn : newOf x = none) : (outV 0 x).keys = [] := by
  cases x with
  | tup xs =>
    simp only [retOK, List.all_eq_true] at h
    simp only [newOf, List.head?_eq_none_iff, List.filterMap_eq_nil_iff] at hn
    simp only [outV, V.keys, List.flatMap_eq_nil_iff, List.mem_map]
    rintro y ⟨z, hz, rfl⟩
    have h1 := h z hz
    have h2 := hn z hz
    cases z <;> first | (cases h2; done) | (cases h1; done) | rfl
  | st fs =>
    simp only [retOK, List.all_eq_true] at h
    simp only [outV, outV1, V.keys, List.flatMap_eq_nil_iff]
    intro y hy
    have := h y hy
    cases y <;> first | rfl | (simp at this; done) | cases this
  | ref f o c => cases hn
  | _ => first | rfl | cases h

theorem call_runs (h : Rel gl w0 ext av φ st a w) (hro : ∀ g r, gl g = some r → r.ro = r) (hfn : ∀ g sp, Γ.fn g = some sp → SoundFn P gl g sp.run) {ks : List Nat} {f : V} {args : List V} {res : Res} {vf : Value} {us : List Value}
    (hr : aCall Γ (restr ks st.mem) (o.dst.getD 0) f args = some res) (hs : st.after o.dst res = some st')
    (hvf : VRel (cxOf φ st.mem av w0.heap.size) w f vf) (hus : All2 (VRel (cxOf φ st.mem av w0.heap.size) w) args us)
    (hrun : ∀ g vs, vf = .func (.func g) #[] vs → (execOp a.eval o).run P w = (callFunc g (us ++ vs.toList).toArray).run P w) : RunsC P gl w0 ext av st' o a w := by
  unfold aCall at hr
  split at hr
  case h_2 => cases hr
  rename_i f g caps
  cases hsp : Γ.fn g with
  | none => rw [hsp] at hr; cases hr
  | some sp =>
    rw [hsp] at hr
    dsimp only at hr
    cases hin : mapO (inV sp.refSl (restr ks st.mem)) (args ++ caps) with
    | none => rw [hin] at hr; cases hr
    | some ins =>
      rw [hin] at hr
      dsimp only at hr
      cases hgo : sp.run ins with
      | none => rw [hgo] at hr; cases hr
      | some p =>
        obtain ⟨ret, outs⟩ := p
        rw [hgo] at hr
        dsimp only at hr
        obtain ⟨⟨hnd, hdis, hlen, hold, hcnt, hok, hpl⟩, hr⟩ := chk_some hr
        obtain ⟨vs, rfl, hcaps⟩ := hvf
        have hall : All2 (VRel (cxOf φ st.mem av w0.heap.size) w) (args ++ caps) (us ++ vs.toList) := All2_append hus (All2.mono (fun x u hh => flat_VRel hh.2 hh.1) hcaps)
        generalize hA : args ++ caps = all at *
        generalize hU : us ++ vs.toList = uall at *
        have hstart := call_start (rs := sp.refSl) h hro (fun k x hk => restr_some hk) hin hall hnd hdis
        have hrun' := hrun g vs rfl
        rw [hU] at hrun'
        obtain ⟨rk1, rk2⟩ := refKeys_at (j0 := 0) hin
        -- what the answer turns
        have fin : ∀ v w', Done w (extC φ sp.refSl all) (avC (cxOf φ st.mem av w0.heap.size).N φ sp.refSl all) (phiC φ sp.refSl all) ins ret outs v w' → ∃ φ', Rel gl w0 ext av φ' st' (a.put o.dst v) w' := by
          rintro v w' ⟨φd, hdone⟩
          have hdst : (newOf ret).isSome = true → o.dst = some (o.dst.getD 0) := by
            intro hn
            obtain ⟨x, hx⟩ := Option.isSome_iff_exists.1 hn
            cases hd : o.dst with
            | some d => rfl
            | none =>
              rw [hd] at hs
              cases hr
              unfold St.after at hs
              rw [hx] at hs
              cases hs
          have hres : res = { v := outV (o.dst.getD 0) ret, upd := (all.filterMap (refKey sp.refSl)).zip outs, new := newOf ret, pg := match newOf ret with | some _ => [o.dst.getD 0] | none => [] } := by cases hr; rfl
          have hnew0 : ∀ k, isNew o.dst res k ↔ ((newOf ret).isSome = true ∧ k = o.dst.getD 0) := by
            intro k
            rw [hres]
            constructor
            · rintro ⟨h1, h2⟩; exact ⟨h1, by rw [h2]; rfl⟩
            · rintro ⟨h1, h2⟩; exact ⟨h1, by rw [hdst h1, h2]⟩
          -- the caller's map of keys behind the call
          let φ' : Nat → Option Nat := fun k => if (newOf ret).isSome = true ∧ k = o.dst.getD 0 then φd 0 else φ k
          have hpg : ∀ k, k ∈ res.pg ↔ ((newOf ret).isSome = true ∧ k = o.dst.getD 0) := by
            intro k
            rw [hres]
            cases hn : newOf ret <;> simp
          have hnewb : ∀ x, newOf ret = some x → ∃ b, φd 0 = some b ∧ w.heap.size ≤ b := by
            intro x hx
            obtain ⟨b, _, _, h1, h2, _⟩ := hdone.new x hx
            exact ⟨b, h1, h2⟩
          have hmemk : ∀ k ∈ all.filterMap (refKey sp.refSl), ∃ x, st.mem k = some x ∧ plainC x = true := by
            intro k hk
            obtain ⟨x, hx, hkx⟩ := List.mem_filterMap.1 hk
            obtain ⟨j, hj⟩ := List.getElem?_of_mem hx
            obtain ⟨y, hy, _⟩ := (mapO_get hin).2 j x hj
            obtain ⟨c, hc, hc2, _⟩ := inV_ref hy k hkx
            exact ⟨c, restr_some hc, hc2⟩
          have hupd : ∀ k x, lookN k res.upd = some x → k ∈ all.filterMap (refKey sp.refSl) ∧ plainC x = true ∧ ∃ b cur e, φ k = some b ∧ w'.heap[b]? = some (.cells cur e (0, 0)) ∧ CRel (dcx φd (avC (cxOf φ st.mem av w0.heap.size).N φ sp.refSl all) ret w.heap.size) w' cur.toList x := by
            intro k x hk
            rw [hres] at hk
            obtain ⟨i, h1, h2⟩ := lookN_zip hk
            obtain ⟨j, y, e1, e2, e3⟩ := rk2 i k h1
            obtain ⟨b, cur, e, k1, k2, k3⟩ := hdone.out i _ x e1 h2
            rw [List.all_eq_true] at hpl
            refine ⟨List.mem_of_getElem? h1, hpl x (List.mem_of_getElem? h2), b, cur, e, ?_, k2, k3⟩
            have hnot : ¬ (1000 + (0 + j) < 1000) := by omega
            simp only [phiC, if_neg hnot] at k1
            have ej : 1000 + (0 + j) - 1000 = j := by omega
            rw [ej, e2] at k1
            simpa [e3] using k1
          have hmem : ∀ k x, st'.mem k = some x → ((newOf ret).isSome = true ∧ k = o.dst.getD 0 ∧ newOf ret = some x) ∨ (¬ ((newOf ret).isSome = true ∧ k = o.dst.getD 0) ∧ ((∃ y, st.mem k = some y) ∧ φ' k = φ k)) := by
            intro k x hk
            rcases after_mem hs k x hk with ⟨hn, hx⟩ | ⟨hn, hx⟩ | ⟨hn, hl, hx, hkx⟩
            · left
              have := (hnew0 k).1 hn
              exact ⟨this.1, this.2, by rw [hres] at hx; exact hx⟩
            · right
              have hn' : ¬ ((newOf ret).isSome = true ∧ k = o.dst.getD 0) := fun hc => hn ((hnew0 k).2 hc)
              obtain ⟨h1, _, _⟩ := hupd k x hx
              obtain ⟨y, hy, _⟩ := hmemk k h1
              exact ⟨hn', ⟨y, hy⟩, if_neg hn'⟩
            · right
              have hn' : ¬ ((newOf ret).isSome = true ∧ k = o.dst.getD 0) := fun hc => hn ((hnew0 k).2 hc)
              exact ⟨hn', ⟨x, hx⟩, if_neg hn'⟩
          have hφnew : (newOf ret).isSome = true → φ' (o.dst.getD 0) = φd 0 := fun hn => if_pos ⟨hn, rfl⟩
          -- the caller's blocks behind the call
          have hN' : ∀ b, (cxOf φ' st'.mem av w0.heap.size).N b → (cxOf φ st.mem av w0.heap.size).N b ∨ ((newOf ret).isSome = true ∧ φd 0 = some b) := by
            rintro b (⟨k, x, hk, hb⟩ | hb)
            · rcases hmem k x hk with ⟨h1, h2, _⟩ | ⟨_, ⟨y, hy⟩, h3⟩
              · right; exact ⟨h1, by rw [← hφnew h1, ← h2]; exact hb⟩
              · left; exact .inl ⟨k, y, hy, by rw [← h3]; exact hb⟩
            · exact .inl (.inr hb)
          have hextN : ∀ b, extC φ sp.refSl all b → (cxOf φ st.mem av w0.heap.size).N b := fun b hb => (hstart.extav b hb).1
          have hm : Mono (cxOf φ st.mem av w0.heap.size) (cxOf φ' st'.mem av w0.heap.size) w w' := by
            refine ⟨rfl, fun b hb hn hc => ?_, fun b hb hn => same_cells (hdone.keep.block b hb (fun he => hn (hextN b he))), hdone.keep.shape⟩
            rcases hN' b hc with hc | ⟨hc, hb'⟩
            · exact hn hc
            · obtain ⟨x, hx⟩ := Option.isSome_iff_exists.1 hc
              obtain ⟨b2, h1, h2⟩ := hnewb x hx
              rw [hb'] at h1
              cases h1
              omega
          have hNlt : ∀ b, (cxOf φ st.mem av w0.heap.size).N b → b < w.heap.size := fun b hb => N_lt h hb
          have hbase := h.keep.size
          -- the map of keys that tells the answer
          obtain ⟨φe, hval, hφe⟩ : ∃ φe, VRel (dcx φe (avC (cxOf φ st.mem av w0.heap.size).N φ sp.refSl all) ret w.heap.size) w' (outV 0 ret) v ∧ φe 0 = φ' (o.dst.getD 0) := by
            cases hn : newOf ret with
            | some x => exact ⟨φd, hdone.val, (hφnew (by rw [hn]; rfl)).symm⟩
            | none =>
              have hmm : Mono (dcx φd (avC (cxOf φ st.mem av w0.heap.size).N φ sp.refSl all) ret w.heap.size) (dcx (fun _ => φ' (o.dst.getD 0)) (avC (cxOf φ st.mem av w0.heap.size).N φ sp.refSl all) ret w.heap.size) w' w' := by
                refine Mono.of_le rfl (fun b hb => ?_) (fun _ => rfl)
                simp only [dcx, hn] at hb ⊢; simpa using hb
              exact ⟨fun _ => φ' (o.dst.getD 0), VRel_mono hmm (fun k hk => by rw [retOK_nokeys hok hn] at hk; cases hk) hdone.val, rfl⟩
          have hturn : Turn (dcx φe (avC (cxOf φ st.mem av w0.heap.size).N φ sp.refSl all) ret w.heap.size) (cxOf φ' st'.mem av w0.heap.size) w' (o.dst.getD 0) ret.old := by
            have hnb : ∀ b, ((newOf ret).isSome = true ∧ φd 0 = some b) → ((newOf ret).isSome = true ∧ φe 0 = some b) := fun b ⟨h1, h2⟩ => ⟨h1, by rw [hφe, hφnew h1]; exact h2⟩
            refine ⟨hφe.symm, fun b hb hf => ?_, fun ho b hb hf => ?_⟩
            · simp only [Cx.fr, if_true] at hf ⊢
              have hf1 : ¬ (b < w.heap.size) := fun hc => hf (.inr hc)
              rintro (hc | hc)
              · rcases hN' b hc with hc | hc
                · exact hf1 (hNlt b hc)
                · exact hf (.inl (.inr (hnb b hc)))
              · exact hf1 (by simp only [cxOf] at hc; omega)
            · intro hc
              rcases hN' b hc with hc | hc
              · refine hf (.inl ⟨hc, ?_⟩)
                rintro ⟨k, hk, _⟩
                rcases hold with hold | hold
                · rw [hold] at hk; cases hk
                · rw [hold] at ho; cases ho
              · exact hf (.inr (hnb b hc))
          refine ⟨φ', h.after_gen hs (fun k hk => .inr ((hnew0 k).2 ((hpg k).1 hk))) (fun k hk => if_neg (fun hc => hk ((hpg k).2 hc))) hm ?_ ?_ ?_ ?_ ?_ (fun _ => by rw [hres]; exact VRel_turn hturn hok hval) ?_⟩
          · intro k x b hk hl hn hb
            refine hdone.keep.block b (own_lt h hk hb) ?_
            rintro ⟨k2, hk2, hb2⟩
            obtain ⟨x2, hx2, _⟩ := hmemk k2 hk2
            have := h.inj k k2 x x2 b hk hx2 hb hb2
            subst this
            rw [hres] at hl
            exact lookN_zip_none hlen hl hk2
          · intro k x hl hn
            obtain ⟨h1, h2, b, cur, e, h3, h4, h5⟩ := hupd k x hl
            exact .inl ⟨b, cur, e, (if_neg (fun hc => hn ((hnew0 k).2 hc)) : φ' k = φ k).trans h3, h4, plainC_CRel h2 h5⟩
          · intro k x hx hd
            rw [hres] at hx
            obtain ⟨b, cur, e, h1, h2, h3, h4⟩ := hdone.new x hx
            have hk : k = o.dst.getD 0 := by rw [hd]; rfl
            exact .inl ⟨b, cur, e, (by rw [hk]; exact (hφnew (Option.isSome_iff_exists.2 ⟨x, hx⟩)).trans h1), h3, plainC_CRel (newOf_plain hok hx) h4⟩
          · intro k k' x x' b hk hk' hb hb'
            rcases hmem k x hk with ⟨h1, h2, h3⟩ | ⟨h1, ⟨y, hy⟩, h3⟩
            · rcases hmem k' x' hk' with ⟨h1', h2', h3'⟩ | ⟨h1', ⟨y', hy'⟩, h3'⟩
              · rw [h2, h2']
              · exfalso
                obtain ⟨b2, e1, e2⟩ := hnewb x h3
                rw [h2, hφnew h1, e1] at hb
                cases hb
                have := own_lt h hy' (by rw [← h3']; exact hb')
                omega
            · rcases hmem k' x' hk' with ⟨h1', h2', h3'⟩ | ⟨h1', ⟨y', hy'⟩, h3'⟩
              · exfalso
                obtain ⟨b2, e1, e2⟩ := hnewb x' h3'
                rw [h2', hφnew h1', e1] at hb'
                cases hb'
                have := own_lt h hy (by rw [← h3]; exact hb)
                omega
              · exact h.inj k k' y y' b hy hy' (by rw [← h3]; exact hb) (by rw [← h3']; exact hb')
          · intro k x b hk hb
            rcases hmem k x hk with ⟨h1, h2, h3⟩ | ⟨h1, ⟨y, hy⟩, h3⟩
            · obtain ⟨b2, e1, e2⟩ := hnewb x h3
              rw [h2, hφnew h1, e1] at hb
              cases hb
              left
              have hlt : o.dst.getD 0 < st.n := by
                obtain ⟨d, hd⟩ : ∃ d, o.dst = some d := ⟨_, hdst h1⟩
                rw [hd] at hs ⊢
                exact after_lt hs
              rw [h2]
              exact ⟨by omega, Nat.lt_of_lt_of_le hlt h.few⟩
            · exact h.own k y b hy (by rw [← h3]; exact hb)
          · refine h.keep.step hdone.keep (fun b hb he => ?_)
            obtain ⟨k, hk, hkb⟩ := he
            obtain ⟨x, hx, _⟩ := hmemk k hk
            rcases h.own k x b hx hkb with h1 | h1
            · omega
            · exact ⟨k, h1.1⟩
        rcases hstart |> hfn g sp hsp ins ret outs hgo w _ _ _ uall with ⟨v, w', h1, h2⟩ | ⟨h1, h2⟩
        · left
          obtain ⟨φ', hrel⟩ := fin v w' h2
          exact ⟨φ', v, w', .inl (by rw [hrun']; exact h1), hrel⟩
        · right
          exact ⟨g, uall.toArray, by rw [hrun']; exact h1, Calls.mono h2 (fun e w' ⟨v, he, hd⟩ => ⟨v, he, fin v w' hd⟩)⟩

end
end Go.Vm

/- One operation, against the model. -/
namespace Go.Vm
open Go
set_option linter.unusedVariables false

section
variable {P : Program} {gl : Nat → Option Row} {w0 : World} {ext : Nat → Nat → Prop} {av : Nat → Prop} {φ : Nat → Option Nat} {st st' : St} {a : Act} {w : World} {o : Oper} {Γ : Ctx}

/-- what is asked of the setting: the types are the program's, the rows of globals too, the functions answer as they are told -/
structure Good (P : Program) (gl : Nat → Option Row) (Γ : Ctx) : Prop where
  ty : Γ.ty = tyOf P 8
  glob : Γ.gl = gl
  ro : ∀ g r, gl g = some r → r.ro = r
  fn : ∀ g sp, Γ.fn g = some sp → SoundFn P gl g sp.run

theorem args1_some {args : List V} {f : V → Option Res} {r : Res} (h : args1 args f = some r) : ∃ x, args = [x] ∧ f x = some r := by
  unfold args1 at h
  split at h
  · exact ⟨_, rfl, h⟩
  · cases h
theorem args2_some {args : List V} {f : V → V → Option Res} {r : Res} (h : args2 args f = some r) : ∃ x y, args = [x, y] ∧ f x y = some r := by
  unfold args2 at h
  split at h
  · exact ⟨_, _, rfl, h⟩
  · cases h
theorem pure1_some {v : Option V} {r : Res} (h : pure1 v = some r) : ∃ x, v = some x ∧ r = { v := x } := by
  unfold pure1 at h
  rw [Option.map_eq_some_iff] at h
  obtain ⟨x, h1, h2⟩ := h
  exact ⟨x, h1, h2.symm⟩

theorem all2_one {α β : Type} {R : α → β → Prop} {x : α} {us : List β} (h : All2 R [x] us) : ∃ u, us = [u] ∧ R x u := by
  cases us with
  | nil => exact h.elim
  | cons u us => cases us with
    | nil => exact ⟨u, rfl, h.1⟩
    | cons _ _ => exact h.2.elim
theorem all2_two {α β : Type} {R : α → β → Prop} {x y : α} {us : List β} (h : All2 R [x, y] us) : ∃ u v, us = [u, v] ∧ R x u ∧ R y v := by
  cases us with
  | nil => exact h.elim
  | cons u us =>
    obtain ⟨v, rfl, h2⟩ := all2_one h.2
    exact ⟨u, v, rfl, h.1, h2⟩

theorem all2_r1 {α β : Type} {R : α → β → Prop} {xs : List α} {u : β} (h : All2 R xs [u]) : ∃ x, xs = [x] ∧ R x u := by
  cases xs with
  | nil => exact h.elim
  | cons x xs => cases xs with
    | nil => exact ⟨x, rfl, h.1⟩
    | cons _ _ => exact h.2.elim
theorem all2_r2 {α β : Type} {R : α → β → Prop} {xs : List α} {u v : β} (h : All2 R xs [u, v]) : ∃ x y, xs = [x, y] ∧ R x u ∧ R y v := by
  cases xs with
  | nil => exact h.elim
  | cons x xs =>
    obtain ⟨y, rfl, h2⟩ := all2_r1 h.2
    exact ⟨x, y, rfl, h.1, h2⟩
theorem all2_r3 {α β : Type} {R : α → β → Prop} {xs : List α} {u v w : β} (h : All2 R xs [u, v, w]) : ∃ x y z, xs = [x, y, z] ∧ R x u ∧ R y v ∧ R z w := by
  cases xs with
  | nil => exact h.elim
  | cons x xs =>
    obtain ⟨y, z, rfl, h2⟩ := all2_r2 h.2
    exact ⟨x, y, z, rfl, h.1, h2⟩

theorem FRel_of_flat {c : Cx} {x : V} {u : Value} (hf : x.isFlat = true) (h : VRel c w x u) : FRel c w x [u] := (flat_facts hf h).1

theorem tuple_at {c : Cx} {x y : V} {xs : List V} {j : Nat} {u : Value} (h : VRel c w (.tup xs) u) (hj : xs[j]? = some y) : ∃ v, (Instr.extract u j).run P w = .ok v w ∧ VRel c w y v := by
  obtain ⟨vs, rfl, h2⟩ := h
  obtain ⟨v, hv, hr⟩ := All2.get h2 j y hj
  have hv' : vs[j]? = some v := by rw [← Array.getElem?_toList]; exact hv
  refine ⟨v, by simp [Instr.extract, hv'], ?_⟩
  rcases hr with ⟨n, r, cs, rfl, rfl, hf⟩ | ⟨hn, hf⟩
  · exact ⟨cs, rfl, hf⟩
  · exact flat_VRel hf hn

theorem new_dst {dst : Option Nat} {res : Res} {x : V} (hs : st.after dst res = some st') (hx : res.new = some x) : dst = some (dst.getD 0) := by
  cases dst with
  | some d => rfl
  | none =>
    unfold St.after at hs
    rw [hx] at hs
    cases hs

theorem exec_pure {x : Sem Value} {u : Value} (hr : (execOp a.eval o).run P w = (do pure (Next.value (← x)) : Sem Next).run P w) (hx : x.run P w = .ok u w) : (execOp a.eval o).run P w = .ok (.value u) w := by
  rw [hr, Sem.run_bind, hx]; rfl

theorem runOp_sound (G : Good P gl Γ) (h : Rel gl w0 ext av φ st a w) (hr : runOp Γ st o = some st') : RunsC P gl w0 ext av st' o a w := by
  unfold runOp at hr
  cases hargs : argsOf Γ st.env o.op with
  | none => rw [hargs] at hr; cases hr
  | some args =>
    rw [hargs] at hr
    dsimp only at hr
    generalize hks : args.flatMap V.keys = ks at hr
    cases hact : act Γ (restr ks st.mem) (o.dst.getD 0) o.op args with
    | none => rw [hact] at hr; cases hr
    | some res =>
      rw [hact] at hr
      dsimp only at hr
      have hsound := args_sound G.glob h hargs
      clear hks hargs
      -- an operation that only reckons
      have pur : ∀ {v : V} {u : Value}, res = { v := v } → (execOp a.eval o).run P w = .ok (.value u) w → VRel (cxOf φ st.mem av w0.heap.size) w v u → RunsC P gl w0 ext av st' o a w := by
        intro v u e1 e2 e3
        subst e1
        exact .inl (runs_pure h hr e2 e3)
      cases ho : o.op with
      | move x =>
        rw [ho] at hact hsound
        obtain ⟨y, rfl, h1⟩ := args1_some hact
        cases h1
        obtain ⟨u, hu, hv⟩ := all2_one hsound
        simp only [Op.operands, List.map_cons, List.map_nil, List.cons.injEq, and_true] at hu
        subst hu
        exact pur rfl (by simp [execOp, ho]) hv
      | assign x =>
        rw [ho] at hact hsound
        obtain ⟨y, rfl, h1⟩ := args1_some hact
        cases h1
        obtain ⟨u, hu, hv⟩ := all2_one hsound
        simp only [Op.operands, List.map_cons, List.map_nil, List.cons.injEq, and_true] at hu
        subst hu
        exact pur rfl (by simp [execOp, ho]) hv
      | pick c x y =>
        rw [ho] at hact hsound
        simp only [act] at hact
        split at hact
        · rename_i b v1 v2
          cases hact
          simp only [Op.operands, List.map_cons, List.map_nil] at hsound
          obtain ⟨s1, s2, s3, _⟩ := hsound
          have hb := inv_b s1
          refine pur (u := if b = true then a.eval x else a.eval y) rfl ?_ ?_
          · simp [execOp, ho, hb, asBool]
          · cases b
            · exact s3
            · exact s2
        · cases hact
      | alloc t =>
        rw [ho] at hact
        simp only [act] at hact
        cases hq : Γ.ty t with
        | none => rw [hq] at hact; cases hact
        | some ty =>
          rw [hq] at hact
          dsimp only at hact
          cases hz : ty.zero with
          | none => rw [hz] at hact; cases hact
          | some z =>
            rw [hz] at hact
            cases hact
            have hd := new_dst hr rfl
            rw [hd] at hr
            exact .inl (alloc_runs G.ty h ho hd hq hz hr)
      | box t x =>
        rw [ho] at hact hsound
        obtain ⟨y, rfl, h1⟩ := args1_some hact
        obtain ⟨u, hu, hv⟩ := all2_one hsound
        simp only [Op.operands, List.map_cons, List.map_nil, List.cons.injEq, and_true] at hu
        subst hu
        have key : y.keys.contains (o.dst.getD 0) = false → (∀ xs, y ≠ .tup xs) → (∀ g cs, y ≠ .clo g cs) → y ≠ .any → res = { v := .p (o.dst.getD 0) 0 0 0, new := some y, pg := [o.dst.getD 0] } → RunsC P gl w0 ext av st' o a w := by
          intro k1 k2 k3 k4 k5
          subst k5
          have hd := new_dst hr rfl
          rw [hd] at hr
          exact .inl (box_runs h ho hd k1 k2 k3 k4 hv hr)
        cases y <;> first
          | (cases h1; done)
          | (obtain ⟨g1, g2⟩ := chk_some h1; cases g2; exact key g1 (by intro xs; simp) (by intro g cs; simp) (by simp) rfl)
      | build t ps =>
        rw [ho] at hact hsound
        obtain ⟨v, h1, rfl⟩ := pure1_some hact
        have hl : (ps.toList.map (·.1)).length = args.length := by rw [All2.length hsound]; simp [Op.operands]
        have hps : (ps.map fun x => (x.fst, a.eval x.snd)).toList = (ps.toList.map (·.1)).zip ((Op.build t ps).operands.toList.map a.eval) := by
          rw [parts_run]; simp [Op.operands]
        obtain ⟨u, k1, k2⟩ := aBuild_sound G.ty hl h1 hsound _ hps
        exact pur rfl (exec_pure (by simp only [execOp, ho]) k1) k2
      | buildSlice t n ps =>
        rw [ho] at hact hsound
        simp only [act] at hact
        cases hb : aBuildSlice Γ t n ((ps.toList.map (·.1)).zip args) with
        | none => rw [hb] at hact; cases hact
        | some r =>
          rw [hb] at hact
          dsimp only at hact
          by_cases hlit : litB r ps.toList = true
          · rw [if_pos hlit] at hact
            cases hact
            have hok : okR r := by
              unfold litB at hlit
              split at hlit
              · exact .inl rfl
              · cases hlit
            exact .inl (lit_runs G.ty h ho hb (by simpa [Op.operands] using hsound) hok hr)
          rw [if_neg hlit] at hact
          cases hact
          have hd := new_dst hr rfl
          rw [hd] at hr
          exact .inl (buildSlice_runs G.ty h ho hd hb (by simpa [Op.operands] using hsound) hr)
      | load t x =>
        rw [ho] at hact hsound
        obtain ⟨y, rfl, h1⟩ := args1_some hact
        obtain ⟨v, h2, rfl⟩ := pure1_some h1
        obtain ⟨u, hu, hv⟩ := all2_one hsound
        simp only [Op.operands, List.map_cons, List.map_nil, List.cons.injEq, and_true] at hu
        subst hu
        obtain ⟨u, k1, k2⟩ := rdAt_sound G.ty h h2 hv
        exact pur rfl (exec_pure (by simp only [execOp, ho]) k1) k2
      | store t x y =>
        rw [ho] at hact hsound
        obtain ⟨p, v, rfl, h1⟩ := args2_some hact
        obtain ⟨u1, u2, hu, hv1, hv2⟩ := all2_two hsound
        simp only [Op.operands, List.map_cons, List.map_nil, List.cons.injEq, and_true] at hu
        obtain ⟨rfl, rfl⟩ := hu
        cases p with
        | p k f off i =>
          dsimp only at h1
          cases hm : restr ks st.mem k with
          | none => rw [hm] at h1; cases h1
          | some c =>
            rw [hm] at h1
            dsimp only at h1
            cases hsv : subV c f off with
            | none => rw [hsv] at h1; cases h1
            | some s =>
              rw [hsv] at h1
              dsimp only at h1
              cases hq : Γ.ty t with
              | none => rw [hq] at h1; cases h1
              | some ty =>
                rw [hq] at h1
                dsimp only at h1
                obtain ⟨g1, g2⟩ := chk_some h1
                cases hw : wr s i v with
                | none => rw [hw] at g2; cases g2
                | some s' =>
                  rw [hw] at g2
                  cases g2
                  exact .inl (store_runs G.ty h ho rfl rfl (restr_some hm) hsv hq g1 hw hr hv1 hv2)
        | _ => cases h1
      | nilCheck x =>
        rw [ho] at hact hsound
        obtain ⟨y, rfl, h1⟩ := args1_some hact
        obtain ⟨v, h2, rfl⟩ := pure1_some h1
        obtain ⟨u, hu, hv⟩ := all2_one hsound
        simp only [Op.operands, List.map_cons, List.map_nil, List.cons.injEq, and_true] at hu
        subst hu
        cases y with
        | p k f off i =>
          cases h2
          obtain ⟨b, e1, e2⟩ := inv_p hv
          exact pur rfl (by simp only [execOp, ho, e2]; rfl) (by rw [e2] at hv; exact hv)
        | rp r i =>
          cases h2
          obtain ⟨b, off, e1, e2⟩ := inv_rp hv
          exact pur rfl (by simp only [execOp, ho, e1]; rfl) (by rw [e1] at hv; exact hv)
        | _ => cases h2
      | binOp op t x y ty =>
        rw [ho] at hact hsound
        obtain ⟨p, v, rfl, h1⟩ := args2_some hact
        obtain ⟨z, h2, rfl⟩ := pure1_some h1
        obtain ⟨u1, u2, hu, hv1, hv2⟩ := all2_two hsound
        simp only [Op.operands, List.map_cons, List.map_nil, List.cons.injEq, and_true] at hu
        obtain ⟨rfl, rfl⟩ := hu
        obtain ⟨u, k1, k2⟩ := aBin_sound G.ty (ox := x) (oy := y) h2 hv1 hv2
        exact pur rfl (exec_pure (by simp only [execOp, ho]) k1) k2
      | unOp op t x =>
        rw [ho] at hact hsound
        obtain ⟨y, rfl, h1⟩ := args1_some hact
        obtain ⟨v, h2, rfl⟩ := pure1_some h1
        obtain ⟨u, hu, hv⟩ := all2_one hsound
        simp only [Op.operands, List.map_cons, List.map_nil, List.cons.injEq, and_true] at hu
        subst hu
        obtain ⟨u, k1, k2⟩ := aUn_sound (P := P) (w := w) h2 hv
        exact pur rfl (exec_pure (by simp only [execOp, ho]) k1) k2
      | convert s t x =>
        rw [ho] at hact hsound
        obtain ⟨y, rfl, h1⟩ := args1_some hact
        split at h1
        · rename_i hq
          obtain ⟨v, h2, rfl⟩ := pure1_some h1
          obtain ⟨u, hu, hv⟩ := all2_one hsound
          simp only [Op.operands, List.map_cons, List.map_nil, List.cons.injEq, and_true] at hu
          subst hu
          unfold aSame at h2
          split at h2
          · rename_i xs
            obtain ⟨⟨e1, e2⟩, e3⟩ := chk_some h2
            cases e3
            subst e1
            rw [G.ty] at hq
            obtain ⟨_, te, d1, d2⟩ := tyOf_desc hq
            obtain ⟨_, _, d3⟩ := tyOf_desc d2
            have d3 : P.underlying te = some (.int .u8) := d3
            obtain ⟨a', len, cap, s1, s2, s3, s4, s5, s6⟩ := inv_sl hv
            rcases s6 with s6 | ⟨blk, off, s6, s7⟩
            · have : xs.length = 0 := s6
              omega
            subst s6
            have hcell := s7.2 0 xs[0] (by rw [List.getElem?_eq_getElem e2])
            have hnN : ¬ (cxOf φ st.mem av w0.heap.size).N blk := fr_N true hcell.1
            have hge : w0.heap.size ≤ blk := by
              have := hcell.1
              simp only [Cx.fr, if_true] at this
              exact Nat.le_of_not_lt fun hlt => this (.inr hlt)
            obtain ⟨ob, hob⟩ : ∃ ob, w.heap[blk]? = some ob := ⟨_, Array.getElem?_eq_getElem (lt_of_cell hcell.2)⟩
            have hsh : ∃ e n, w.shape? blk = some (e, n) := by
              have hc := hcell.2
              unfold World.cell? at hc
              rw [hob] at hc
              cases ob with
              | cells cur e fr => exact ⟨e, cur.size, by simp [World.shape?, hob]⟩
              | _ => simp at hc
            obtain ⟨e, n, hsh⟩ := hsh
            have hrun : (convert s s (a.eval x)).run P w = .ok (a.eval x) (w.freeze ⟨blk, n, none⟩ 1) := by
              rw [s1]
              simp [convert, run_underlying d1, run_underlying d3, markStringish, hsh]
            obtain ⟨hmk, hmm⟩ := h.marked hnN hge n 1
            refine .inl ⟨φ, a.eval x, _, .inl ?_, hmk.after_pure hr ?_⟩
            · simp only [execOp, ho, Sem.run_bind, hrun]; rfl
            · exact VRel_mono hmm (fun _ _ => rfl) hv
          · rename_i bs
            rw [G.ty] at hq h2
            cases hsty : tyOf P 8 s with
            | none => rw [hsty] at h2; cases h2
            | some sty =>
              rw [hsty] at h2
              cases sty with
              | s =>
                obtain ⟨hlim, e3⟩ := chk_some h2
                cases e3
                obtain ⟨_, te, d1, d2⟩ := tyOf_desc hq
                obtain ⟨_, _, d3⟩ := tyOf_desc d2
                have d3 : P.underlying te = some (.int .u8) := d3
                obtain ⟨_, d4⟩ := tyOf_desc hsty
                have d4 : P.underlying s = some .string := d4
                obtain ⟨str, s1, s2, s3⟩ := inv_s hv
                have hrun := Lib.run_convert_string_bytes (P := P) w s t te str d4 d1 d3
                rw [← s1] at hrun
                have h1r : Rel gl w0 ext av φ st a (w.drew.alloc (.cells (Lib.bytesCells w te str) te)) := (h.drawn _ : Rel gl w0 ext av φ st a w.drew).grown _
                have hnN : ¬ (cxOf φ st.mem av w0.heap.size).N w.heap.size := fun hc => by have := N_lt h hc; omega
                obtain ⟨hmk, hmm⟩ := h1r.marked hnN h.keep.size (Lib.bytesCells w te str).size 1
                have hsz : str.size = bs.length := by rw [← s2]; unfold bytesOf; rw [List.length_map, Array.length_toList]; rfl
                refine .inl ⟨φ, .slice (some ⟨w.heap.size, 0, none⟩) str.size (grownCap w str.size 0 te), Lib.bytesWorld w te str, .inl ?_, hmk.after_pure hr ?_⟩
                · simp only [execOp, ho, Sem.run_bind, hrun]; rfl
                · refine ⟨_, rfl, _, _, _, rfl, hsz, grownCap_ge w str.size 0 te, hlim, .inl rfl, .inr ⟨w.heap.size, 0, rfl, rowAt_of_vals (vs := bs.map (ic 8)) ⟨.inl rfl, rfl⟩ fun j u hu => ⟨?_, ?_⟩⟩⟩
                  · simp only [Cx.fr, if_true]
                    rintro (hc | hc)
                    · exact hnN hc
                    · have hc : w.heap.size < w0.heap.size := hc
                      have := h.keep.size
                      omega
                  · rw [List.getElem?_map] at hu
                    cases hbj : bs[j]? with
                    | none => rw [hbj] at hu; cases hu
                    | some y =>
                      rw [hbj] at hu
                      cases hu
                      have hj : j < str.size := by
                        rw [hsz]
                        exact (List.getElem?_eq_some_iff.1 hbj).1
                      have hcell := Lib.bytesWorld_cell w te str j hj
                      rw [Nat.zero_add]
                      refine hcell.trans ?_
                      have hy : (str.data.toList.getD j 0).toBitVec = y := by
                        rw [← s2] at hbj
                        unfold bytesOf at hbj
                        rw [List.getElem?_map] at hbj
                        rw [List.getD_eq_getElem?_getD]
                        cases hz : str.data.toList[j]? with
                        | none => rw [hz] at hbj; cases hbj
                        | some z => rw [hz] at hbj; cases hbj; rfl
                      rw [← hy]
                      rfl
              | _ => cases h2
          · cases h2
        obtain ⟨v, h2, rfl⟩ := pure1_some h1
        obtain ⟨u, hu, hv⟩ := all2_one hsound
        simp only [Op.operands, List.map_cons, List.map_nil, List.cons.injEq, and_true] at hu
        subst hu
        obtain ⟨u, k1, k2⟩ := aConv_sound G.ty h h2 hv
        exact pur rfl (exec_pure (by simp only [execOp, ho]) k1) k2
      | sliceToArrayPointer t x =>
        rw [ho] at hact hsound
        obtain ⟨y, rfl, h1⟩ := args1_some hact
        obtain ⟨u, hu, hv⟩ := all2_one hsound
        simp only [Op.operands, List.map_cons, List.map_nil, List.cons.injEq, and_true] at hu
        subst hu
        split at h1
        · rename_i n wd hq
          obtain ⟨v, e2, e1⟩ := pure1_some h1
          obtain ⟨u, k1, k2⟩ := arrayAt_sound (P := P) G.ty hq e2 hv
          exact pur e1 (exec_pure (by simp only [execOp, ho]) k1) k2
        · cases h1
      | makeFunc fn first cap =>
        rw [ho] at hact hsound
        simp only [act] at hact
        split at hact
        · rename_i f
          obtain ⟨⟨g1, g2⟩, g3⟩ := chk_some hact
          cases g3
          have hf0 : first = #[] := by simpa using g1
          subst hf0
          simp only [Op.operands, Array.empty_append] at hsound
          rw [List.all_eq_true] at g2
          refine pur (u := .func (.func f) #[] (cap.map a.eval)) rfl (by simp [execOp, ho, Instr.makeFunc]) ⟨_, rfl, ?_⟩
          rw [Array.toList_map]
          exact All2.mono_mem (fun x hx b hb => ⟨(by intro n r e; subst e; have := g2 _ hx; cases this), FRel_of_flat (g2 x hx) hb⟩) hsound
        · cases hact
      | makeSlice t x y =>
        rw [ho] at hact hsound
        simp only [act] at hact
        split at hact
        · rename_i n c
          split at hact
          · rename_i e hq
            cases hz : e.rowZ n.toNat with
            | none => rw [hz] at hact; cases hact
            | some r =>
              rw [hz] at hact
              dsimp only at hact
              obtain ⟨g1, g2⟩ := chk_some hact
              cases g2
              have hd := new_dst hr rfl
              rw [hd] at hr
              obtain ⟨u1, u2, hu, hv1, hv2⟩ := all2_two hsound
              simp only [Op.operands, List.map_cons, List.map_nil, List.cons.injEq, and_true] at hu
              obtain ⟨rfl, rfl⟩ := hu
              exact .inl (makeSlice_runs G.ty h ho hd hq hz g1 hv1 hv2 hr)
          · cases hact
        · cases hact
      | slice t x lo hi mx =>
        rw [ho] at hact hsound
        cases args with
        | nil => cases hact
        | cons xv rest =>
          simp only [act] at hact
          cases hq : Γ.ty t with
          | none => rw [hq] at hact; cases hact
          | some sty =>
            rw [hq] at hact
            dsimp only at hact
            obtain ⟨hmx, hact⟩ := chk_some hact
            obtain ⟨v, h2, rfl⟩ := pure1_some hact
            rw [G.ty] at hq
            have key : ∀ {lov hiv mxv : Option V}, aSlice Γ (restr ks st.mem) t xv lov hiv mxv = some v → VRel (cxOf φ st.mem av w0.heap.size) w xv (a.eval x) →
                (∀ y, lov = some y → ∃ u, lo.map a.eval = some u ∧ VRel (cxOf φ st.mem av w0.heap.size) w y u) → (lov = none → lo.map a.eval = none) →
                (∀ y, hiv = some y → ∃ u, hi.map a.eval = some u ∧ VRel (cxOf φ st.mem av w0.heap.size) w y u) → (hiv = none → hi.map a.eval = none) →
                (∀ y, mxv = some y → ∃ u, mx.map a.eval = some u ∧ VRel (cxOf φ st.mem av w0.heap.size) w y u) → (mxv = none → mx.map a.eval = none) → (mxv ≠ none → hiv ≠ none) →
                RunsC P gl w0 ext av st' o a w := by
              intro lov hiv mxv h3 hv r1 r1n r2 r2n r3 r3n hm
              obtain ⟨u, k1, k2⟩ := aSlice_sound (m := 0) G.ty (fun k f o c s b k1 k2 k3 => room_cells h (restr_some k1) k2 k3) hq h3 hv r1 r1n r2 r2n r3 r3n hm
              exact pur rfl (exec_pure (by simp only [execOp, ho]) k1) k2
            cases lo <;> cases hi <;> cases mx <;> first | (simp at hmx; done) | skip
            all_goals
              simp only [Op.operands] at hsound
              simp at hsound h2
              obtain ⟨hv, hrest⟩ := hsound
            · exact key h2 hv (by simp) (by simp) (by simp) (by simp) (by simp) (by simp) (by simp)
            · obtain ⟨y, rfl, e1⟩ := all2_r1 hrest
              exact key h2 hv (by simp) (by simp) (by simpa using e1) (by simp) (by simp) (by simp) (by simp)
            · obtain ⟨y, z, rfl, e1, e2⟩ := all2_r2 hrest
              exact key h2 hv (by simp) (by simp) (by simpa using e1) (by simp) (by simpa using e2) (by simp) (by simp)
            · obtain ⟨y, rfl, e1⟩ := all2_r1 hrest
              exact key h2 hv (by simpa using e1) (by simp) (by simp) (by simp) (by simp) (by simp) (by simp)
            · obtain ⟨y, z, rfl, e1, e2⟩ := all2_r2 hrest
              exact key h2 hv (by simpa using e1) (by simp) (by simpa using e2) (by simp) (by simp) (by simp) (by simp)
            · obtain ⟨y, z, q, rfl, e1, e2, e3⟩ := all2_r3 hrest
              exact key h2 hv (by simpa using e1) (by simp) (by simpa using e2) (by simp) (by simpa using e3) (by simp) (by simp)
      | fieldAddr t x f =>
        rw [ho] at hact hsound
        obtain ⟨y, rfl, h1⟩ := args1_some hact
        obtain ⟨v, h2, rfl⟩ := pure1_some h1
        obtain ⟨u, hu, hv⟩ := all2_one hsound
        simp only [Op.operands, List.map_cons, List.map_nil, List.cons.injEq, and_true] at hu
        subst hu
        obtain ⟨u, k1, k2⟩ := aFieldAddr_sound (P := P) G.ty h2 hv
        exact pur rfl (exec_pure (by simp only [execOp, ho]) k1) k2
      | field t x f =>
        rw [ho] at hact hsound
        obtain ⟨y, rfl, h1⟩ := args1_some hact
        obtain ⟨v, h2, rfl⟩ := pure1_some h1
        obtain ⟨u, hu, hv⟩ := all2_one hsound
        simp only [Op.operands, List.map_cons, List.map_nil, List.cons.injEq, and_true] at hu
        subst hu
        obtain ⟨u, k1, k2⟩ := aField_sound (P := P) G.ty h2 hv
        exact pur rfl (exec_pure (by simp only [execOp, ho]) k1) k2
      | indexAddr t x y =>
        rw [ho] at hact hsound
        obtain ⟨p, v, rfl, h1⟩ := args2_some hact
        obtain ⟨z, h2, rfl⟩ := pure1_some h1
        obtain ⟨u1, u2, hu, hv1, hv2⟩ := all2_two hsound
        simp only [Op.operands, List.map_cons, List.map_nil, List.cons.injEq, and_true] at hu
        obtain ⟨rfl, rfl⟩ := hu
        obtain ⟨u, k1, k2⟩ := aIdxAddrN_sound (P := P) G.ty h2 hv1 hv2
        exact pur rfl (exec_pure (by simp only [execOp, ho]) k1) k2
      | index t x y =>
        rw [ho] at hact hsound
        obtain ⟨p, v, rfl, h1⟩ := args2_some hact
        obtain ⟨z, h2, rfl⟩ := pure1_some h1
        obtain ⟨u1, u2, hu, hv1, hv2⟩ := all2_two hsound
        simp only [Op.operands, List.map_cons, List.map_nil, List.cons.injEq, and_true] at hu
        obtain ⟨rfl, rfl⟩ := hu
        obtain ⟨u, k1, k2⟩ := aIdx_sound (P := P) G.ty h2 hv1 hv2
        exact pur rfl (exec_pure (by simp only [execOp, ho]) k1) k2
      | extract x j =>
        rw [ho] at hact hsound
        obtain ⟨y, rfl, h1⟩ := args1_some hact
        obtain ⟨u, hu, hv⟩ := all2_one hsound
        simp only [Op.operands, List.map_cons, List.map_nil, List.cons.injEq, and_true] at hu
        subst hu
        split at h1
        · rename_i xs
          rw [Option.map_eq_some_iff] at h1
          obtain ⟨v, h2, h3⟩ := h1
          obtain ⟨u, k1, k2⟩ := tuple_at (P := P) (x := .any) hv h2
          exact pur h3.symm (exec_pure (by simp only [execOp, ho]) k1) k2
        · cases h1
      | call c =>
        rw [ho] at hact hsound
        simp only [act] at hact
        cases hcl : c.callee with
        | value f =>
          rw [hcl] at hact
          dsimp only at hact
          cases args with
          | nil => cases hact
          | cons fv rest =>
            simp only [Op.operands, Call.operands, hcl] at hsound
            have hops : (#[f] ++ c.args).toList.map a.eval = a.eval f :: c.args.toList.map a.eval := by simp
            rw [hops] at hsound
            refine call_runs h G.ro G.fn hact hr hsound.1 hsound.2 ?_
            intro g vs hvf
            simp only [execOp, ho, resolve, hcl, Deferred.ofValue, hvf, Sem.run_bind, Sem.run_pure, Result.andThen_ok, invoke]
            congr 2
            apply Array.ext'
            simp
        | builtin b =>
          rw [hcl] at hact
          dsimp only at hact
          simp only [Op.operands, Call.operands, hcl] at hsound
          have hops : (#[] ++ c.args).toList.map a.eval = c.args.toList.map a.eval := by simp
          rw [hops] at hsound
          obtain ⟨consts, hrun⟩ : ∃ consts, (execOp a.eval o).run P w = (builtin b c.argTypes o.type consts (c.args.map a.eval)).run P w := by
            refine ⟨c.args.map (fun | .const _ => true | _ => false), ?_⟩
            simp only [execOp, ho, resolve, hcl, Sem.run_bind, Sem.run_pure, Result.andThen_ok, invoke]
            rfl
          have hav : c.args.map a.eval = (c.args.toList.map a.eval).toArray := by apply Array.ext'; simp
          rw [hav] at hrun
          cases b with
          | append =>
            simp only [actBuiltin] at hact
            split at hact
            · rename_i x y
              split at hact
              · rename_i t t' htys
                obtain ⟨g1, g2⟩ := chk_some hact
                subst g1
                obtain ⟨u1, u2, hu, hv1, hv2⟩ := all2_two hsound
                rw [hu] at hrun
                have hd : o.dst = some (o.dst.getD 0) := by
                  cases hd : o.dst with
                  | some d => rfl
                  | none =>
                    exfalso
                    rw [hd] at hr
                    have hpg : res.pg ≠ [] := by
                      unfold aAppend at g2
                      split at g2
                      · cases h1 : rowOf' (restr ks st.mem) _ y with
                        | none => rw [h1] at g2; cases g2
                        | some q =>
                          rw [h1] at g2
                          dsimp only at g2
                          split at g2
                          · split at g2
                            · split at g2
                              · have := (chk_some g2).2; cases this; simp
                              · cases g2
                            · cases g2
                          · split at g2
                            · have g3 := (chk_some g2).2
                              split at g3
                              · have := (chk_some g3).2; cases this; simp
                              · cases g3
                            · cases g2
                          · split at g2
                            · split at g2
                              · have g3 := (chk_some g2).2
                                split at g3
                                · have := (chk_some g3).2; cases this; simp
                                · cases g3
                              · cases g2
                            · cases g2
                          · cases g2
                      · cases g2
                    unfold St.after at hr
                    cases hn : res.new with
                    | some c => rw [hn] at hr; cases hr
                    | none => rw [hn] at hr; exact hpg (chk_some hr).1
                rw [hd] at hr
                refine .inl (append_runs (e := .o) G.ty h g2 hd ?_ hv1 hv2 hr)
                intro v w' hv
                rw [hrun]
                have hat : c.argTypes = #[t, t] := by apply Array.ext'; exact htys
                simp only [builtin, hat, Sem.run_bind, hv, Result.andThen_ok, Sem.run_pure]
              · cases hact
            · cases hact
          | copy =>
            simp only [actBuiltin] at hact
            split at hact
            · rename_i x y
              split at hact
              · rename_i t t' htys
                obtain ⟨u1, u2, hu, hv1, hv2⟩ := all2_two hsound
                rw [hu] at hrun
                refine .inl (copy_runs (t' := t') G.ty h hact ?_ hv1 hv2 hr)
                intro v w' hv
                rw [hrun]
                have hat : c.argTypes = #[t, t'] := by apply Array.ext'; exact htys
                simp only [builtin, hat, Sem.run_bind, hv, Result.andThen_ok, Sem.run_pure]
              · cases hact
            · cases hact
          | len =>
            simp only [actBuiltin] at hact
            split at hact
            · rename_i x
              split at hact
              · rename_i t htys
                obtain ⟨v, h2, rfl⟩ := pure1_some hact
                obtain ⟨u1, hu, hv1⟩ := all2_one hsound
                rw [hu] at hrun
                obtain ⟨u, k1, k2⟩ := aLen_sound (P := P) (ty := o.type) G.ty c.argTypes (by rw [← Array.getElem?_toList, htys]; rfl) h2 hv1
                exact pur rfl (by rw [hrun]; simp only [builtin, Sem.run_bind]; rw [k1]; rfl) k2
              · cases hact
            · cases hact
          | min =>
            simp only [actBuiltin] at hact
            split at hact
            · rename_i x y
              obtain ⟨v, h2, rfl⟩ := pure1_some hact
              obtain ⟨u1, u2, hu, hv1, hv2⟩ := all2_two hsound
              rw [hu] at hrun
              obtain ⟨u, k1, k2⟩ := aMinMax_sound (P := P) h2 hv1 hv2 c.argTypes o.type
              exact pur rfl (by rw [hrun]; simp only [builtin, Sem.run_bind]; simp only [Bool.false_eq_true, if_false] at k1; rw [k1]; rfl) k2
            · cases hact
          | max =>
            simp only [actBuiltin] at hact
            split at hact
            · rename_i x y
              obtain ⟨v, h2, rfl⟩ := pure1_some hact
              obtain ⟨u1, u2, hu, hv1, hv2⟩ := all2_two hsound
              rw [hu] at hrun
              obtain ⟨u, k1, k2⟩ := aMinMax_sound (P := P) h2 hv1 hv2 c.argTypes o.type
              exact pur rfl (by rw [hrun]; simp only [builtin, Sem.run_bind]; simp only [if_true] at k1; rw [k1]; rfl) k2
            · cases hact
          | _ => cases hact
        | invoke r n => rw [hcl] at hact; cases hact
      | _ => rw [ho] at hact; cases hact

end
end Go.Vm

/- Regions in the text's order, and the rules of control over told states. -/
namespace Go.Vm
open Go
set_option linter.unusedVariables false

section
variable {P : Program} {gl : Nat → Option Row} {w0 : World} {ext : Nat → Nat → Prop} {av : Nat → Prop} {φ : Nat → Option Nat} {st st' : St} {a : Act} {w : World} {o : Oper} {Γ : Ctx} {Q : Exit → Act → World → Prop}

theorem wanted_of (h : Rel gl w0 ext av φ st a w) {ops : Array Oper} {o : Oper} {j : Nat} {want x : Bool} (hg : o.guard = some (j, want)) (hx : guardB ops.toList st j want = some x) :
    Region.wanted o (yielded ops a.tmps) = (x == want) := by
  unfold guardB at hx
  rw [Array.getElem?_toList] at hx
  cases hj : ops[j]? with
  | none => rw [hj] at hx; cases hx
  | some q =>
    rw [hj] at hx
    dsimp only at hx
    cases hd : q.dst with
    | none => rw [hd] at hx; cases hx
    | some d =>
      rw [hd] at hx
      dsimp only at hx
      cases he : st.env d with
      | none => rw [he] at hx; cases hx
      | some v =>
        rw [he] at hx
        cases v with
        | b y =>
          cases hx
          have hv := inv_b (h.env d _ he)
          have hy : yielded ops a.tmps j = some x := by
            unfold yielded
            simp only [hj, Option.bind_some, hd]
            cases ht : a.tmps[d]? with
            | none =>
              rw [Array.getD_eq_getD_getElem?, ht] at hv
              simp [undef] at hv
            | some u =>
              rw [Array.getD_eq_getD_getElem?, ht] at hv
              simp at hv
              subst hv
              rfl
          unfold Region.wanted
          rw [hg]
          simp [hy]
        | tup l =>
          cases l with
          | cons y ys => cases hx
          | nil =>
            cases hx
            obtain ⟨vs, hvs, hall⟩ := h.env d _ he
            have hvs0 : vs = #[] := by
              cases hl : vs.toList with
              | nil => exact Array.toList_eq_nil_iff.1 hl
              | cons y ys => rw [hl] at hall; cases hall
            subst hvs0
            have hy : yielded ops a.tmps j = none := by
              unfold yielded
              simp only [hj, Option.bind_some, hd]
              cases ht : a.tmps[d]? with
              | none => rfl
              | some u =>
                rw [Array.getD_eq_getD_getElem?, ht] at hvs
                simp at hvs
                subst hvs
                rfl
            unfold Region.wanted
            rw [hg]
            simp [hy]
        | _ => cases hx

theorem skip_sound (h : Rel gl w0 ext av φ st a w) (hs : skipOp st o = some st') (hd : ∀ d, o.dst = some d → d < st.n) : Rel gl w0 ext av φ st' (a.put o.dst undef) w := by
  unfold skipOp at hs
  cases ho : o.dst with
  | none => rw [ho] at hs; cases hs; exact h
  | some d => rw [ho] at hs; cases hs; exact h.putE (hd d ho) ⟨#[], rfl, trivial⟩

/-- an operation, run or skipped -/
theorem step_sound (G : Good P gl Γ) (h : Rel gl w0 ext av φ st a w) {ops : Array Oper} {i : Nat} (hi : ops[i]? = some o) (hs : step Γ ops.toList st o = some st') {K : Act → World → Prop}
    (hK : ∀ φ' a' w', Rel gl w0 ext av φ' st' a' w' → K a' w') : wpOp P ops Q i K a w := by
  unfold wpOp
  rw [hi]
  dsimp only
  unfold step at hs
  cases hg : o.guard with
  | none =>
    rw [hg] at hs
    have : Region.wanted o (yielded ops a.tmps) = true := by unfold Region.wanted; rw [hg]
    rw [if_pos this]
    exact .inl ((runOp_sound G h hs).wp hK)
  | some p =>
    obtain ⟨j, want⟩ := p
    rw [hg] at hs
    dsimp only at hs
    cases hx : guardB ops.toList st j want with
    | none => rw [hx] at hs; cases hs
    | some x =>
      rw [hx] at hs
      dsimp only at hs
      rw [wanted_of h hg hx]
      by_cases hw : x = want
      · rw [if_pos hw] at hs
        rw [if_pos (by simp [hw])]
        exact .inl ((runOp_sound G h hs).wp hK)
      · rw [if_neg hw] at hs
        rw [if_neg (by simp [hw])]
        obtain ⟨h1, h2⟩ := chk_some hs
        exact hK _ _ _ (skip_sound h h2 h1)

theorem steps_sound (G : Good P gl Γ) {ops : Array Oper} (hQ : ∀ φ' a' w', Rel gl w0 ext av φ' st' a' w' → Q .normal a' w') : ∀ (n i : Nat) {st : St} {φ : Nat → Option Nat} {a : Act} {w : World}, i + n = ops.size →
    steps Γ ops.toList st (ops.toList.drop i) = some st' → Rel gl w0 ext av φ st a w → wpOps P ops Q (List.range' i n) a w
  | 0, i, st, φ, a, w, hi, hs, h => by
    rw [List.drop_eq_nil_of_le (by simp; omega)] at hs
    cases hs
    exact hQ _ _ _ h
  | n + 1, i, st, φ, a, w, hi, hs, h => by
    have hlt : i < ops.toList.length := by simp; omega
    rw [List.drop_eq_getElem_cons hlt] at hs
    simp only [steps] at hs
    cases h1 : step Γ ops.toList st ops.toList[i] with
    | none => rw [h1] at hs; cases hs
    | some st1 =>
      rw [h1] at hs
      rw [List.range'_succ, wpOps_cons]
      have hio : ops[i]? = some ops.toList[i] := by rw [← Array.getElem?_toList]; exact List.getElem?_eq_getElem hlt
      exact step_sound G h hio h1 (fun φ' a' w' hr => steps_sound G hQ n (i + 1) (by omega) hs hr)

/-! ### told states under control -/

/-- c, begun where st holds, comes to an end where Q holds -/
def W (P : Program) (gl : Nat → Option Row) (w0 : World) (ext : Nat → Nat → Prop) (av : Nat → Prop) (c : Code) (st : St) (Q : Exit → St → Prop) : Prop :=
  ∀ φ a w, Rel gl w0 ext av φ st a w → c.wp P (fun e a' w' => ∃ st' φ', Q e st' ∧ Rel gl w0 ext av φ' st' a' w') a w

def thenQ (next : St → Prop) (Q : Exit → St → Prop) : Exit → St → Prop
  | .normal, s => next s
  | e, s => Q e s

def inBlockQ (id : Nat) (Q : Exit → St → Prop) : Exit → St → Prop
  | .exit id', s => if id' = id then Q .normal s else Q (.exit id') s
  | e, s => Q e s

variable {c x y : Code} {R : Exit → St → Prop}

theorem W.mono {R' : Exit → St → Prop} (h : W P gl w0 ext av c st R) (hr : ∀ e s, R e s → R' e s) : W P gl w0 ext av c st R' :=
  fun φ a w hrel => wp_mono (h φ a w hrel) (fun e a' w' ⟨s, φ', h1, h2⟩ => ⟨s, φ', hr e s h1, h2⟩)

theorem W.weaken {s : St} (h : W P gl w0 ext av c s R) (hle : s.Le st) : W P gl w0 ext av c st R := fun φ a w hrel => h φ a w (hrel.weaken hle)

theorem W.skip (h : R .normal st) : W P gl w0 ext av .skip st R := fun φ a w hrel => wp_skip ⟨st, φ, h, hrel⟩
theorem W.ret (h : R .ret st) : W P gl w0 ext av .ret st R := fun φ a w hrel => wp_ret ⟨st, φ, h, hrel⟩
theorem W.exit {id : Nat} (h : R (.exit id) st) : W P gl w0 ext av (.exit id) st R := fun φ a w hrel => wp_exit ⟨st, φ, h, hrel⟩

theorem W.seq (h : W P gl w0 ext av x st (thenQ (fun s => W P gl w0 ext av y s R) R)) : W P gl w0 ext av (.seq x y) st R := by
  intro φ a w hrel
  refine wp_seq (wp_mono (h φ a w hrel) ?_)
  rintro e a' w' ⟨s, φ', h1, h2⟩
  cases e with
  | normal => exact h1 φ' a' w' h2
  | _ => exact ⟨s, φ', h1, h2⟩

theorem W.cond {q : Operand} {b : Bool} (hgl : Γ.gl = gl) (hq : opnd Γ st.env q = some (.b b)) (ht : b = true → W P gl w0 ext av x st R) (hf : b = false → W P gl w0 ext av y st R) : W P gl w0 ext av (.cond q x y) st R := by
  intro φ a w hrel
  exact wp_cond_split (inv_b (opnd_sound hgl hrel hq)) (fun e => ht e φ a w hrel) (fun e => hf e φ a w hrel)

theorem W.block {id : Nat} (h : W P gl w0 ext av c st (inBlockQ id R)) : W P gl w0 ext av (.block id c) st R := by
  intro φ a w hrel
  refine wp_block (wp_mono (h φ a w hrel) ?_)
  rintro e a' w' ⟨s, φ', h1, h2⟩
  cases e with
  | exit id' =>
    simp only [inBlockQ] at h1
    simp only [Exit.inBlock]
    by_cases e : id' = id
    · rw [if_pos e] at h1 ⊢; exact ⟨s, φ', h1, h2⟩
    · rw [if_neg e] at h1 ⊢; exact ⟨s, φ', h1, h2⟩
  | _ => exact ⟨s, φ', h1, h2⟩

theorem leastN {p : Nat → Prop} (h : ∃ n, p n) : ∃ n, p n ∧ ∀ k, p k → n ≤ k := by
  obtain ⟨n, hn⟩ := h
  induction n using Nat.strongRecOn with
  | _ n ih =>
    by_cases hc : ∃ k, k < n ∧ p k
    · obtain ⟨k, hk, hp⟩ := hc
      exact ih k hk hp
    · exact ⟨n, hn, fun k hk => Nat.le_of_not_lt (fun hlt => hc ⟨k, hlt, hk⟩)⟩

/-- a loop over a family of states: each round goes to one that is measured less -/
theorem W.loop {ι : Type} (S : ι → St) (m : ι → Nat) (i0 : ι) (h0 : (S i0).Le st)
    (h : ∀ i, W P gl w0 ext av c (S i) (thenQ (fun s => ∃ j, (S j).Le s ∧ m j < m i) R)) : W P gl w0 ext av (.loop c) st R := by
  intro φ a w hrel
  let p : Act → World → Nat → Prop := fun a w n => ∃ i φ, m i = n ∧ Rel gl w0 ext av φ (S i) a w
  have hle : ∀ a w (hh : ∃ n, p a w n) n, p a w n → Classical.choose (leastN hh) ≤ n := fun a w hh n hn => (Classical.choose_spec (leastN hh)).2 n hn
  let μ : Act → World → Nat := fun a w => @dite _ (∃ n, p a w n) (Classical.propDecidable _) (fun hh => Classical.choose (leastN hh)) (fun _ => 0)
  have hμ : ∀ a w (hh : ∃ n, p a w n), μ a w = Classical.choose (leastN hh) := fun a w hh => dif_pos hh
  refine wp_loop (fun a w => ∃ n, p a w n) μ ⟨m i0, i0, φ, rfl, hrel.weaken h0⟩ ?_
  intro a w hI
  obtain ⟨i, φ, h1, h2⟩ := (Classical.choose_spec (leastN hI)).1
  rw [← hμ a w hI] at h1
  refine wp_mono (h i φ a w h2) ?_
  rintro e a' w' ⟨s, φ', h3, h4⟩
  cases e with
  | normal =>
    obtain ⟨j, h5, h6⟩ := h3
    have hI' : ∃ n, p a' w' n := ⟨m j, j, φ', rfl, h4.weaken h5⟩
    refine ⟨hI', ?_⟩
    rw [hμ a' w' hI', ← h1]
    exact Nat.lt_of_le_of_lt (hle a' w' hI' _ ⟨j, φ', rfl, h4.weaken h5⟩) h6
  | _ => exact ⟨s, φ', h3, h4⟩

theorem W.region (G : Good P gl Γ) {id : Nat} {ops : Array Oper} (hs : steps Γ ops.toList st ops.toList = some st') (h : R .normal st') : W P gl w0 ext av (.region id ops false) st R := by
  intro φ a w hrel
  refine wp_region ?_
  rw [List.range_eq_range']
  exact steps_sound G (fun φ' a' w' hr => ⟨st', φ', h, hr⟩) ops.size 0 (by omega) (by simpa using hs) hrel

end
end Go.Vm

/- From a body's told states to what the function answers. -/
namespace Go.Vm
open Go
set_option linter.unusedVariables false

noncomputable def resV (Γ : Ctx) (s : St) : ResultVar → Option V
  | .tmp t => s.env t
  | .cell x t => match s.env x with
    | some p => rdAt Γ s.mem t p
    | none => none

/-- a value as it leaves a function: own slices are handed over, an own object goes with its pointer -/
noncomputable def normV (M : Nat → Option V) : V → Option V
  | .gr k len => match rowOf M (.gr k len) with
    | some r => chk (k < 1000 ∧ r.len ≤ LIM) (some (.sl true r))
    | none => none
  | .os k f o i len => match rowOf M (.os k f o i len) with
    | some r => chk (k < 1000 ∧ r.len ≤ LIM) (some (.sl true r))
    | none => none
  | .p k f o i => match M k with
    | some c => chk (k < 1000 ∧ f = 0 ∧ o = 0 ∧ i = 0 ∧ plainC c = true) (some (.ref 0 0 c))
    | none => none
  | .sl f r => some (.sl f r)
  | .nils => some .nils
  | .st fs => chk ((fs.all fun f => match f with | .sl _ _ => true | .nils => true | f => plain1 f) = true) (some (.st fs))
  | v => chk (plain1 v = true) (some v)

/-- an answer may be told in a weaker way -/
def LeV (x y : V) : Prop := x = y ∨ (x = .nils ∧ ∃ f r, y = .sl f r ∧ r.len = 0 ∧ okR r) ∨ (∃ wd xs, x = .sl true (.u wd xs) ∧ y = .sl false (.u wd xs))

def tupV : List V → V
  | [x] => x
  | xs => .tup xs

noncomputable def noOwn : V → Bool
  | .gr _ _ => false
  | .os _ _ _ _ _ => false
  | _ => true

def noSt : V → Bool
  | .st _ => false
  | _ => true

structure Answers (Γ : Ctx) (fn : Func) (ins : List V) (ret : V) (outs : List V) (s : St) : Prop where
  val : ∃ rs ns ys, mapO (resV Γ s) fn.results.toList = some rs ∧ mapO (normV s.mem) rs = some ns ∧ All2 LeV ns ys ∧ ret = tupV ys ∧ (newOf ret = none ∨ rs.all noOwn = true) ∧ newCount ret ≤ 1 ∧ (ys.length = 1 ∨ ys.all noSt = true)
  out : mapO s.mem (refKeys 0 ins) = some outs ∧ outs.all plainC = true

section
variable {P : Program} {gl : Nat → Option Row} {w0 : World} {ext : Nat → Nat → Prop} {av : Nat → Prop} {φ : Nat → Option Nat} {st st' : St} {a : Act} {w : World} {o : Oper} {Γ : Ctx}

theorem LeV_sound {c : Cx} {x y : V} {u : Value} (hl : LeV x y) (h : VRel c w x u) : VRel c w y u := by
  rcases hl with rfl | ⟨rfl, f, r, rfl, h1, h2⟩ | ⟨wd, xs, rfl, rfl⟩
  · exact h
  · obtain rfl := inv_nils h
    exact ⟨_, rfl, none, 0, 0, rfl, h1.symm, Nat.le_refl _, by rw [h1]; exact Nat.zero_le _, h2, .inl h1⟩
  · obtain ⟨a, len, cap, e1, e2, e3, e4, e5, e6⟩ := inv_sl h
    exact ⟨_, rfl, a, len, cap, e1, e2, e3, e4, e5, e6.imp id (fun ⟨blk, off, e7, e8⟩ => ⟨blk, off, e7, rowAt_weak e8⟩)⟩

theorem LeV_out {c : Cx} {x y : V} {d : Nat} {u : Value} (hl : LeV x y) (h : VRel c w (outV1 d x) u) : VRel c w (outV1 d y) u := by
  rcases hl with rfl | ⟨rfl, f, r, rfl, h1, h2⟩ | ⟨wd, xs, rfl, rfl⟩
  · exact h
  · exact LeV_sound (.inr (.inl ⟨rfl, f, r, rfl, h1, h2⟩)) h
  · exact LeV_sound (.inr (.inr ⟨wd, xs, rfl, rfl⟩)) h

/-- an own slice, seen from outside -/
theorem reads_fresh {c c' : Cx} {v : Value} {r : Row} (h : Reads c w v r) (hm : Mono c c' w w) (hb : ∀ ad len cap, v = .slice (some ad) len cap → ¬ c'.fr true ad.block) (hl : r.len ≤ LIM) : slR w c' true v r := by
  obtain ⟨x, cap, rfl, h1, vs, h2, h3⟩ := h
  have hvl := rowVals_len h2
  refine ⟨x, r.len, cap, rfl, rfl, h1, hl, vals_ok h2, ?_⟩
  rcases h3 with rfl | ⟨ad, rfl, h4, h5⟩
  · exact .inl (by rw [← hvl]; rfl)
  · obtain ⟨blk, off, spot⟩ := ad
    simp only at h4
    subst h4
    exact .inr ⟨blk, off, rfl, rowAt_of_vals (rowVals_mono hm h2) (fun j u hu => ⟨hb _ _ _ rfl, by have := h5 j u hu; rwa [addr_add] at this⟩)⟩

theorem normV_sound (h : Rel gl w0 ext av φ st a w) {c' : Cx} (hbase : c'.base = w0.heap.size) (hN : ∀ b, c'.N b → (cxOf φ st.mem av w0.heap.size).N b)
    {x y : V} {u : Value} (hx : normV st.mem x = some y) (hv : VRel (cxOf φ st.mem av w0.heap.size) w x u)
    (hown : noOwn x = false → ∀ b, c'.N b → av b) (href : ∀ k f o i, x = .p k f o i → c'.φ 0 = φ k) : VRel c' w (outV1 0 y) u := by
  have hm : Mono (cxOf φ st.mem av w0.heap.size) c' w w := Mono.of_le hbase hN (fun _ => rfl)
  have same : ∀ {x : V}, x.keys = [] → VRel (cxOf φ st.mem av w0.heap.size) w x u → VRel c' w x u := fun hk hv => VRel_mono hm (fun k hkk => by rw [hk] at hkk; cases hkk) hv
  have fresh : ∀ {k : Nat} {z : V} {b : Nat}, noOwn x = false → st.mem k = some z → φ k = some b → k < 1000 → ¬ c'.fr true b := by
    intro k z b hno hk hb hlt
    have hge : w0.heap.size ≤ b := by
      rcases h.own k z b hk hb with h1 | h1
      · exact h1.1
      · omega
    simp only [Cx.fr, if_true]
    rintro (hc | hc)
    · have := h.avb b (hown hno b hc)
      omega
    · rw [hbase] at hc; omega
  cases x with
  | gr k len =>
    simp only [normV] at hx
    cases hr : rowOf st.mem (.gr k len) with
    | none => rw [hr] at hx; cases hx
    | some r =>
      rw [hr] at hx
      obtain ⟨⟨h1, h2⟩, h3⟩ := chk_some hx
      cases h3
      obtain ⟨z, hz⟩ : ∃ z, st.mem k = some z := by
        simp only [rowOf] at hr
        cases hk : st.mem k with
        | none => rw [hk] at hr; cases hr
        | some z => exact ⟨z, rfl⟩
      obtain ⟨a', cap, e1, e2, e3⟩ := inv_gr hv
      refine ⟨u, rfl, reads_fresh (rowOf_reads h hr hv) hm (fun ad len' cap' e => ?_) (by omega)⟩
      rw [e1] at e
      cases e
      rcases e3 with ⟨e4, _⟩ | ⟨b, cur, ee, fr, e4, e5, _⟩
      · cases e4
      · cases e5; exact fresh rfl hz e4 h1
  | os k f o i len =>
    simp only [normV] at hx
    cases hr : rowOf st.mem (.os k f o i len) with
    | none => rw [hr] at hx; cases hx
    | some r =>
      rw [hr] at hx
      obtain ⟨⟨h1, h2⟩, h3⟩ := chk_some hx
      cases h3
      obtain ⟨z, hz⟩ : ∃ z, st.mem k = some z := by
        simp only [rowOf] at hr
        cases hk : st.mem k with
        | none => rw [hk] at hr; cases hr
        | some z => exact ⟨z, rfl⟩
      obtain ⟨b, cap, e1, e2, e3⟩ := inv_os hv
      refine ⟨u, rfl, reads_fresh (rowOf_reads h hr hv) hm (fun ad len' cap' e => ?_) (by omega)⟩
      rw [e2] at e
      cases e
      exact fresh rfl hz e1 h1
  | p k f o i =>
    simp only [normV] at hx
    cases hk : st.mem k with
    | none => rw [hk] at hx; cases hx
    | some c =>
      rw [hk] at hx
      obtain ⟨⟨h1, h2, h3, h4, h5⟩, h6⟩ := chk_some hx
      cases h6
      subst h2 h3 h4
      obtain ⟨b, e1, e2⟩ := inv_p hv
      exact ⟨b, (href k 0 0 0 rfl).trans e1, by rw [e2]⟩
  | sl f r => cases hx; exact same rfl hv
  | nils => cases hx; exact hv
  | st fs =>
    obtain ⟨h1, h2⟩ := chk_some hx
    cases h2
    show VRel c' w (.st fs) u
    refine same ?_ hv
    rw [List.all_eq_true] at h1
    simp only [V.keys, List.flatMap_eq_nil_iff]
    intro y hy
    have := h1 y hy
    cases y <;> first | rfl | (simp at this; done) | cases this
  | agg n r => obtain ⟨h1, h2⟩ := chk_some hx; cases h2; exact same rfl hv
  | u wd x => obtain ⟨h1, h2⟩ := chk_some hx; cases h2; exact same rfl hv
  | i n => obtain ⟨h1, h2⟩ := chk_some hx; cases h2; exact same rfl hv
  | b x => obtain ⟨h1, h2⟩ := chk_some hx; cases h2; exact same rfl hv
  | s bs => obtain ⟨h1, h2⟩ := chk_some hx; cases h2; exact same rfl hv
  | nilp => obtain ⟨h1, h2⟩ := chk_some hx; cases h2; exact same rfl hv
  | _ => obtain ⟨h1, h2⟩ := chk_some hx; cases h1

theorem restr_self {M : Nat → Option V} {ks : List Nat} : ∀ k x, restr ks M k = some x → M k = some x := fun k x h => restr_some h

def resSem (tmps : Array Value) : ResultVar → Sem Value
  | .tmp t => pure (tmps.getD t undef)
  | .cell y t => do loadVar t (← asAddr (tmps.getD y undef))

theorem resV_run (G : Good P gl Γ) (h : Rel gl w0 ext av φ st a w) {r : ResultVar} {x : V} (hx : resV Γ st r = some x) :
    ∃ u, (resSem a.tmps r).run P w = .ok u w ∧ VRel (cxOf φ st.mem av w0.heap.size) w x u := by
  cases r with
  | tmp t => exact ⟨_, rfl, h.env t x hx⟩
  | cell y t =>
    simp only [resV] at hx
    cases he : st.env y with
    | none => rw [he] at hx; cases hx
    | some p =>
      rw [he] at hx
      have hv := h.env y p he
      have hr : rdAt Γ (restr p.keys st.mem) t p = some x := by
        unfold rdAt at hx ⊢
        cases hq : Γ.ty t with
        | none => rw [hq] at hx; cases hx
        | some ty =>
          rw [hq] at hx
          dsimp only at hx ⊢
          cases p with
          | p k f o i =>
            have : restr [k] st.mem k = st.mem k := by unfold restr; exact chk_ok (by simp)
            simp only [V.keys, V.keys1, this]
            exact hx
          | _ => exact hx
      obtain ⟨u, k1, k2⟩ := rdAt_sound G.ty h hr hv
      refine ⟨u, ?_, k2⟩
      have hp : ∃ ad, a.tmps.getD y undef = .pointer (some ad) := by
        unfold rdAt at hx
        cases hq : Γ.ty t with
        | none => rw [hq] at hx; cases hx
        | some ty =>
          rw [hq] at hx
          dsimp only at hx
          cases p with
          | p k f o i => obtain ⟨b, _, e⟩ := inv_p hv; exact ⟨_, e⟩
          | rp r i => obtain ⟨b, off, e, _⟩ := inv_rp hv; exact ⟨_, e⟩
          | _ => cases hx
      obtain ⟨ad, e⟩ := hp
      rw [e] at k1
      simp only [Instr.loadAt, Instr.sureAddr, Sem.run_bind, Sem.run_pure, Result.andThen_ok] at k1
      simp only [resSem, e, asAddr, Sem.run_bind, Sem.run_pure, Result.andThen_ok, k1]

theorem res_run (G : Good P gl Γ) (h : Rel gl w0 ext av φ st a w) : ∀ {rv : List ResultVar} {rs : List V}, mapO (resV Γ st) rv = some rs →
    ∃ us, (rv.mapM (resSem a.tmps)).run P w = .ok us w ∧ All2 (VRel (cxOf φ st.mem av w0.heap.size) w) rs us
  | [], rs, hm => by cases hm; exact ⟨[], rfl, trivial⟩
  | r :: rv, rs, hm => by
    simp only [mapO] at hm
    cases h1 : resV Γ st r with
    | none => rw [h1] at hm; cases hm
    | some x =>
      rw [h1] at hm
      cases h2 : mapO (resV Γ st) rv with
      | none => rw [h2] at hm; cases hm
      | some xs =>
        rw [h2] at hm
        cases hm
        obtain ⟨u, k1, k2⟩ := resV_run G h h1
        obtain ⟨us, k3, k4⟩ := res_run G h h2
        refine ⟨u :: us, ?_, k2, k4⟩
        rw [List.mapM_cons, Sem.run_bind, k1, Result.andThen_ok, Sem.run_bind, k3]
        rfl

theorem norm_all (h : Rel gl w0 ext av φ st a w) {c' : Cx} (hbase : c'.base = w0.heap.size) (hN : ∀ b, c'.N b → (cxOf φ st.mem av w0.heap.size).N b) :
    ∀ {rs ns ys : List V} {us : List Value}, mapO (normV st.mem) rs = some ns → All2 LeV ns ys → All2 (VRel (cxOf φ st.mem av w0.heap.size) w) rs us →
      ((∀ b, c'.N b → av b) ∨ rs.all noOwn = true) → (∀ x ∈ rs, ∀ k f o i, x = .p k f o i → c'.φ 0 = φ k) → All2 (fun y u => VRel c' w (outV1 0 y) u) ys us
  | [], ns, ys, us, hm, hl, hv, _, _ => by cases hm; cases ys <;> cases us <;> first | trivial | exact hl.elim | exact hv.elim
  | x :: rs, ns, ys, us, hm, hl, hv, hno, href => by
    simp only [mapO] at hm
    cases h1 : normV st.mem x with
    | none => rw [h1] at hm; cases hm
    | some n =>
      rw [h1] at hm
      cases h2 : mapO (normV st.mem) rs with
      | none => rw [h2] at hm; cases hm
      | some ns' =>
        rw [h2] at hm
        cases hm
        cases ys with
        | nil => exact hl.elim
        | cons y ys => cases us with
          | nil => exact hv.elim
          | cons u us =>
            refine ⟨LeV_out hl.1 (normV_sound h hbase hN h1 hv.1 (fun hx => ?_) (href x (by simp))), norm_all h hbase hN h2 hl.2 hv.2 ?_ (fun x hx => href x (by simp [hx]))⟩
            · rcases hno with hno | hno
              · exact hno
              · simp only [List.all_cons, Bool.and_eq_true] at hno
                rw [hno.1] at hx; cases hx
            · rcases hno with hno | hno
              · exact .inl hno
              · simp only [List.all_cons, Bool.and_eq_true] at hno
                exact .inr hno.2

theorem results_run (G : Good P gl Γ) (h : Rel gl w0 ext av φ st a w) {fn : Func} {rs : List V} (hm : mapO (resV Γ st) fn.results.toList = some rs) :
    ∃ us : List Value, (results fn a.tmps).run P w = .ok (match us with | [u] => u | us => .tuple us.toArray) w ∧ All2 (VRel (cxOf φ st.mem av w0.heap.size) w) rs us := by
  obtain ⟨us, k1, k2⟩ := res_run G h hm
  refine ⟨us, ?_, k2⟩
  unfold results
  rw [Array.mapM_eq_mapM_toList, Sem.run_bind, Sem.run_map]
  have : ∀ f : ResultVar → Sem Value, (∀ r, f r = resSem a.tmps r) → (fn.results.toList.mapM f).run P w = .ok us w := by
    intro f hf
    rw [show f = resSem a.tmps from funext hf]; exact k1
  rw [this _ (fun r => by cases r <;> rfl)]
  match us with
  | [] => rfl
  | [u] => rfl
  | _ :: _ :: _ => rfl

/-- what a value has become that leaves a function -/
noncomputable def formB : V → Bool
  | .sl _ _ => true
  | .nils => true
  | .ref _ _ c => plainC c
  | .st fs => fs.all fun f => match f with | .sl _ _ => true | .nils => true | f => plain1 f
  | v => plain1 v

theorem normV_form {M : Nat → Option V} {x y : V} (h : normV M x = some y) : formB y = true := by
  cases x with
  | gr k len =>
    simp only [normV] at h
    split at h
    · have := (chk_some h).2; cases this; rfl
    · cases h
  | os k f o i len =>
    simp only [normV] at h
    split at h
    · have := (chk_some h).2; cases this; rfl
    · cases h
  | p k f o i =>
    simp only [normV] at h
    split at h
    · obtain ⟨h1, h2⟩ := chk_some h; cases h2; exact h1.2.2.2.2
    · cases h
  | sl f r => cases h; rfl
  | nils => cases h; rfl
  | st fs => obtain ⟨h1, h2⟩ := chk_some h; cases h2; exact h1
  | _ => obtain ⟨h1, h2⟩ := chk_some h; cases h2; first | rfl | cases h1

theorem LeV_form {x y : V} (h : LeV x y) (hx : formB x = true) : formB y = true := by
  rcases h with rfl | ⟨rfl, f, r, rfl, h1, h2⟩ | ⟨wd, xs, rfl, rfl⟩
  · exact hx
  · rfl
  · rfl

theorem form_no {y : V} (h : formB y = true) : (∀ xs, y ≠ .tup xs) ∧ (∀ g cs, y ≠ .clo g cs) ∧ y ≠ .any := by
  refine ⟨fun xs e => ?_, fun g cs e => ?_, fun e => ?_⟩ <;> subst e <;> cases h

theorem newOf_tupV : ∀ {ys : List V}, (∀ y ∈ ys, formB y = true) → newOf (tupV ys) = (ys.filterMap newOf1).head? ∧ (newCount (tupV ys) ≤ 1 → (ys.filterMap newOf1).length ≤ 1)
  | [], _ => ⟨rfl, fun _ => by simp⟩
  | [y], h => by
    have hy := form_no (h y (by simp))
    have e : newOf (tupV [y]) = newOf1 y := by
      cases y with
      | tup xs => exact absurd rfl (hy.1 xs)
      | _ => rfl
    rw [e]
    cases hn : newOf1 y <;> simp [hn]
  | y :: z :: ys, h => ⟨rfl, fun h => h⟩

/-- the references that leave, on both sides -/
theorem refs_match (h : Rel gl w0 ext av φ st a w) : ∀ {rs ns ys : List V} {us : List Value}, mapO (normV st.mem) rs = some ns → All2 LeV ns ys → All2 (VRel (cxOf φ st.mem av w0.heap.size) w) rs us →
    All2 (fun k c => st.mem k = some c ∧ k < 1000 ∧ plainC c = true ∧ ∃ b, φ k = some b) (rs.filterMap (refKey false)) (ys.filterMap newOf1)
  | [], ns, ys, us, hm, hl, hv => by
    cases hm; cases ys with
    | nil => trivial
    | cons _ _ => exact hl.elim
  | x :: rs, ns, ys, us, hm, hl, hv => by
    simp only [mapO] at hm
    cases h1 : normV st.mem x with
    | none => rw [h1] at hm; cases hm
    | some n =>
      rw [h1] at hm
      cases h2 : mapO (normV st.mem) rs with
      | none => rw [h2] at hm; cases hm
      | some ns' =>
        rw [h2] at hm
        cases hm
        cases ys with
        | nil => exact hl.elim
        | cons y ys => cases us with
          | nil => exact hv.elim
          | cons u us =>
            have ih := refs_match h h2 hl.2 hv.2
            have noref : refKey false x = none → newOf1 n = none → All2 (fun k c => st.mem k = some c ∧ k < 1000 ∧ plainC c = true ∧ ∃ b, φ k = some b) ((x :: rs).filterMap (refKey false)) ((y :: ys).filterMap newOf1) := by
              intro e1 e2
              have e3 : newOf1 y = none := by
                rcases hl.1 with rfl | ⟨rfl, f, r, rfl, _, _⟩ | ⟨wd, xs, rfl, rfl⟩
                · exact e2
                · rfl
                · rfl
              simp only [List.filterMap_cons, e1, e3]
              exact ih
            cases x with
            | p k f o i =>
              simp only [normV] at h1
              cases hk : st.mem k with
              | none => rw [hk] at h1; cases h1
              | some c =>
                rw [hk] at h1
                obtain ⟨⟨g1, g2, g3, g4, g5⟩, g6⟩ := chk_some h1
                cases g6
                have hy : y = .ref 0 0 c := by
                  rcases hl.1 with e | ⟨e, _⟩ | ⟨wd, xs, e, _⟩
                  · exact e.symm
                  · cases e
                  · cases e
                subst hy
                obtain ⟨b, e1, _⟩ := inv_p hv.1
                exact ⟨⟨hk, g1, g5, b, e1⟩, ih⟩
            | gr k len =>
              refine noref rfl ?_
              simp only [normV] at h1
              split at h1
              · have := (chk_some h1).2; cases this; rfl
              · cases h1
            | os k f o i len =>
              refine noref rfl ?_
              simp only [normV] at h1
              split at h1
              · have := (chk_some h1).2; cases this; rfl
              · cases h1
            | sl f r => cases h1; exact noref rfl rfl
            | nils => cases h1; exact noref rfl rfl
            | st fs => have := (chk_some h1).2; cases this; exact noref rfl rfl
            | _ => obtain ⟨g1, g2⟩ := chk_some h1; cases g2; first | exact noref rfl rfl | cases g1

theorem tup_sound {c : Cx} : ∀ {ys : List V} {us : List Value}, (∀ y ∈ ys, formB y = true) → (ys.length = 1 ∨ ys.all noSt = true) → All2 (fun y u => VRel c w (outV1 0 y) u) ys us →
    VRel c w (outV 0 (tupV ys)) (match us with | [u] => u | us => .tuple us.toArray) := by
  have elt : ∀ {ys : List V} {us : List Value}, (∀ y ∈ ys, formB y = true) → ys.all noSt = true → All2 (fun y u => VRel c w (outV1 0 y) u) ys us →
      All2 (fun x u => (∃ n r cs, x = .agg n r ∧ u = .agg cs ∧ FRel c w (.agg n r) cs.toList) ∨ ((∀ n r, x ≠ .agg n r) ∧ FRel c w x [u])) (ys.map (outV1 0)) us := by
    intro ys
    induction ys with
    | nil => intro us _ _ h; cases us <;> exact h
    | cons y ys ih =>
      intro us hf hs h
      cases us with
      | nil => exact h
      | cons u us =>
        simp only [List.all_cons, Bool.and_eq_true] at hs
        refine ⟨?_, ih (fun y hy => hf y (by simp [hy])) hs.2 h.2⟩
        have hy := hf y (by simp)
        have hv := h.1
        cases y with
        | agg n r => obtain ⟨cs, e1, e2⟩ := hv; exact .inl ⟨n, r, cs, rfl, e1, e2⟩
        | st fs => cases hs.1
        | tup xs => cases hy
        | clo g cs => cases hy
        | any => cases hy
        | row r => cases hy
        | ref f o x => exact .inr ⟨by intro n r; simp [outV1], hv⟩
        | _ => exact .inr ⟨by intro n r; simp [outV1], flat_FRel hv (by intro n r; simp [outV1]) (by intro fs; simp [outV1]) (by intro xs; simp [outV1]) (by intro g cs; simp [outV1]) (by simp [outV1])⟩
  intro ys us hf hs h
  match ys, us, h with
  | [], [], h => exact ⟨#[], rfl, trivial⟩
  | [y], [u], h =>
    have hy := form_no (hf y (by simp))
    have e : outV 0 (tupV [y]) = outV1 0 y := by
      cases y with
      | tup xs => exact absurd rfl (hy.1 xs)
      | _ => rfl
    rw [e]
    exact h.1
  | y :: z :: ys, u :: v :: us, h =>
    have hs' : (y :: z :: ys).all noSt = true := by
      rcases hs with hs | hs
      · simp at hs
      · exact hs
    exact ⟨_, rfl, elt hf hs' h⟩
  | [], _ :: _, h => exact h.elim
  | _ :: _, [], h => exact h.elim
  | [_], _ :: _ :: _, h => exact h.2.elim
  | _ :: _ :: _, [_], h => exact h.2.elim

theorem refKeys_ge : ∀ (ins : List V) (j : Nat), ∀ k ∈ refKeys j ins, 1000 ≤ k
  | [], j, k, h => by cases h
  | x :: ins, j, k, h => by
    simp only [refKeys] at h
    split at h
    · rcases List.mem_cons.1 h with rfl | h
      · omega
      · exact refKeys_ge ins (j + 1) k h
    · exact refKeys_ge ins (j + 1) k h

theorem soundFn_of_W (G : Good P gl Γ) {f : Nat} {fn : Func} {c : Code} {run : List V → Option (V × List V)} (hf : P.funcs[f]? = some fn) (hname : fn.name ≠ "runtime.NumGoroutine") (hb : fn.body = some c) (hn : fn.ntmps ≤ 1000)
    (h : ∀ ins ret outs, run ins = some (ret, outs) → ins.length ≤ fn.ntmps ∧ ∀ (w0 : World) (ext : Nat → Nat → Prop) (av : Nat → Prop), W P gl w0 ext av c (st0 fn.ntmps ins) (fun e s => (e = .normal ∨ e = .ret) ∧ Answers Γ fn ins ret outs s)) : SoundFn P gl f run := by
  intro ins ret outs hrun w ext av φ vs hstart
  right
  obtain ⟨hlen, hW⟩ := h ins ret outs hrun
  refine ⟨?_, ?_⟩
  · simp [callFunc, hf, hb, hname]
  · refine calls_of_wp hf hb (wp_mono (hW w _ av φ _ w (hstart.rel hn hlen)) ?_)
    rintro e a' w' ⟨s, φe, ⟨he, hans⟩, hrel⟩
    have key : a'.defers = [] ∧ ∃ v, (results fn a'.tmps).run P w' = .ok v w' ∧ ∃ v', Ending.returned v = .returned v' ∧ Done w ext av φ ins ret outs v' w' := by
      obtain ⟨rs, ns, ys, h1, h2, h3, h4, h5, h6, h7⟩ := hans.val
      obtain ⟨us, k1, k2⟩ := results_run G hrel h1
      refine ⟨hrel.defers, _, k1, _, rfl, ?_⟩
      have hforms : ∀ y ∈ ys, formB y = true := by
        intro y hy
        obtain ⟨j, hj⟩ := List.getElem?_of_mem hy
        have hlt : j < ns.length := by rw [All2.length h3]; exact (List.getElem?_eq_some_iff.1 hj).1
        obtain ⟨y', hy', hle⟩ := All2.get h3 j _ (List.getElem?_eq_getElem hlt)
        rw [hj] at hy'
        cases hy'
        obtain ⟨x, hx, hxn⟩ := mapO_at h2 j _ (List.getElem?_eq_getElem hlt)
        exact LeV_form hle (normV_form hxn)
      obtain ⟨hnew, hcount⟩ := newOf_tupV hforms
      rw [← h4] at hnew hcount
      have hrefs := refs_match hrel h2 h3 k2
      -- the key of what is new
      let kr : Option Nat := (rs.filterMap (refKey false)).head?
      have hkr : ∀ x, newOf ret = some x → ∃ k b, kr = some k ∧ s.mem k = some x ∧ k < 1000 ∧ plainC x = true ∧ φe k = some b := by
        intro x hx
        rw [hnew] at hx
        show ∃ k b, (rs.filterMap (refKey false)).head? = some k ∧ _
        revert hrefs hx
        generalize rs.filterMap (refKey false) = ks
        generalize ys.filterMap newOf1 = cs
        intro hrefs hx
        cases cs with
        | nil => cases hx
        | cons c cs => cases ks with
          | nil => exact hrefs.elim
          | cons k ks =>
            cases hx
            obtain ⟨⟨e1, e2, e3, b, e4⟩, _⟩ := hrefs
            exact ⟨k, b, rfl, e1, e2, e3, e4⟩
      refine ⟨fun _ => kr.bind φe, ?_⟩
      have hN : ∀ b, (dcx (fun _ => kr.bind φe) av ret w.heap.size).N b → (cxOf φe s.mem av w.heap.size).N b := by
        rintro b (hb | ⟨hb1, hb2⟩)
        · exact .inr hb
        · obtain ⟨x, hx⟩ := Option.isSome_iff_exists.1 hb1
          obtain ⟨k, b', e1, e2, e3, e4, e5⟩ := hkr x hx
          rw [e1] at hb2
          exact .inl ⟨k, x, e2, hb2⟩
      refine ⟨(Keep.refl ext w).step hrel.keep (fun b _ hb => ?_), ?_, ?_, ?_⟩
      · obtain ⟨k, hk1, hk2⟩ := hb
        obtain ⟨x, hx⟩ := Option.isSome_iff_exists.1 hk1
        exact hstart.own k x b hx hk2
      · rw [h4]
        refine tup_sound hforms h7 (norm_all hrel rfl (by rw [← h4]; exact hN) h2 h3 k2 ?_ ?_)
        · rcases h5 with h5 | h5
          · left
            rw [← h4]
            rintro b (hb | ⟨hb, _⟩)
            · exact hb
            · rw [h5] at hb; cases hb
          · exact .inr h5
        · intro x hx k f o i e
          subst e
          have hmem : k ∈ rs.filterMap (refKey false) := List.mem_filterMap.2 ⟨_, hx, rfl⟩
          have hlen1 : (rs.filterMap (refKey false)).length ≤ 1 := by rw [All2.length hrefs]; exact hcount h6
          show kr.bind φe = φe k
          have : kr = some k := by
            show (rs.filterMap (refKey false)).head? = some k
            cases hq : rs.filterMap (refKey false) with
            | nil => rw [hq] at hmem; cases hmem
            | cons k' ks =>
              rw [hq] at hmem hlen1
              cases ks with
              | nil => simp at hmem; rw [hmem]; rfl
              | cons _ _ => simp at hlen1
          rw [this]; rfl
      · intro x hx
        obtain ⟨k, b, e1, e2, e3, e4, e5⟩ := hkr x hx
        rcases hrel.mem k x e2 with ⟨b', cur, e, f1, f2, f3⟩ | ⟨f1, _⟩
        · have hge : w.heap.size ≤ b' := by
            rcases hrel.own k x b' e2 f1 with hh | hh
            · exact hh.1
            · omega
          exact ⟨b', cur, e, by show kr.bind φe = _; rw [e1]; exact f1, hge, f2, plainC_CRel e4 f3⟩
        · have : (none : Option Nat) = some b := f1.symm.trans e5
          cases this
      · intro i k y hk hy
        obtain ⟨k', hk', hm⟩ := mapO_at hans.out.1 i y hy
        rw [hk] at hk'
        cases hk'
        have hpl := hans.out.2
        rw [List.all_eq_true] at hpl
        have hp := hpl y (List.mem_of_getElem? hy)
        rcases hrel.mem k y hm with ⟨b, cur, e, f1, f2, f3⟩ | ⟨f1, f0, _⟩
        · rcases hrel.own k y b hm f1 with hh | hh
          · have := refKeys_ge _ _ k (List.mem_of_getElem? hk)
            omega
          · exact ⟨b, cur, e, hh.1.2, f2, plainC_CRel hp f3⟩
        · have := refKeys_ge _ _ k (List.mem_of_getElem? hk)
          omega
    rcases he with rfl | rfl
    · exact key
    · exact key

end
end Go.Vm

/- Regions whose order is drawn: what each operation did in the text's order, it does in every order that the edges leave. -/
namespace Go.Vm
open Go
set_option linter.unusedVariables false

/-- what an operation did -/
structure Ev where
  dst : Option Nat
  res : Res

noncomputable def Ev.app (e : Ev) (s : St) : St :=
  match e.dst with
  | some d => { env := put d e.res.v (purgeIf e.res.pg s.env), mem := newM d e.res.new (updM e.res.upd (purgeIf e.res.pg s.mem)), n := s.n }
  | none => { env := purgeIf e.res.pg s.env, mem := updM e.res.upd (purgeIf e.res.pg s.mem), n := s.n }

noncomputable def purge1 (ks : List Nat) : Option V → Option V
  | some v => if v.keys.any (ks.contains ·) then none else some v
  | none => none

theorem purgeIf_at (ks : List Nat) (e : Nat → Option V) (t : Nat) : purgeIf ks e t = purge1 ks (e t) := by
  cases ks with
  | nil =>
    show e t = _
    cases h : e t with
    | none => rfl
    | some v => simp [purge1]
  | cons k ks => show purge (k :: ks) e t = _; unfold purge purge1; cases e t <;> rfl

theorem purge1_some {ks : List Nat} {x : Option V} {v : V} (h : purge1 ks x = some v) : x = some v ∧ ∀ k ∈ v.keys, k ∉ ks := by
  cases x with
  | none => cases h
  | some u =>
    simp only [purge1] at h
    by_cases hc : (u.keys.any (ks.contains ·)) = true
    · rw [if_pos hc] at h; cases h
    · rw [if_neg hc] at h; cases h; exact ⟨rfl, mem_keys_any (by simpa using hc)⟩

theorem purge1_keep {ks : List Nat} {v : V} (h : ∀ k ∈ v.keys, k ∉ ks) : purge1 ks (some v) = some v := by
  simp only [purge1]
  rw [if_neg]
  intro hc
  rw [List.any_eq_true] at hc
  obtain ⟨k, hk, hk2⟩ := hc
  exact h k hk (by simpa using hk2)

theorem purge1_comm (a b : List Nat) (x : Option V) : purge1 a (purge1 b x) = purge1 b (purge1 a x) := by
  cases x with
  | none => rfl
  | some v =>
    have e : ∀ c : List Nat, purge1 c (some v) = if (v.keys.any (c.contains ·)) = true then none else some v := fun c => rfl
    rw [e a, e b]
    by_cases h1 : (v.keys.any (a.contains ·)) = true
    · by_cases h2 : (v.keys.any (b.contains ·)) = true
      · rw [if_pos h1, if_pos h2]; rfl
      · rw [if_pos h1, if_neg h2, e a, if_pos h1]; rfl
    · by_cases h2 : (v.keys.any (b.contains ·)) = true
      · rw [if_neg h1, if_pos h2, e b, if_pos h2]; rfl
      · rw [if_neg h1, if_neg h2, e a, e b, if_neg h1, if_neg h2]

/-- what is written at a key -/
noncomputable def Ev.at (e : Ev) (k : Nat) : Option V :=
  match e.dst with
  | some d => if d = k then (match e.res.new with | some c => some c | none => lookN k e.res.upd) else lookN k e.res.upd
  | none => lookN k e.res.upd

theorem app_env (e : Ev) (s : St) (t : Nat) : (e.app s).env t = if e.dst = some t then some e.res.v else purge1 e.res.pg (s.env t) := by
  unfold Ev.app
  cases hd : e.dst with
  | none => simp [purgeIf_at]
  | some d =>
    by_cases h : d = t
    · subst h; simp [put]
    · have h' : ¬ t = d := fun x => h x.symm
      simp [put, h, h', purgeIf_at]

theorem app_mem (e : Ev) (s : St) (k : Nat) : (e.app s).mem k = match e.at k with | some v => some v | none => purge1 e.res.pg (s.mem k) := by
  have hu : updM e.res.upd (purgeIf e.res.pg s.mem) k = match lookN k e.res.upd with | some v => some v | none => purge1 e.res.pg (s.mem k) := by
    unfold updM
    cases lookN k e.res.upd with
    | some v => rfl
    | none => exact purgeIf_at _ _ _
  unfold Ev.app Ev.at
  cases hd : e.dst with
  | none => exact hu
  | some d =>
    dsimp only
    cases hn : e.res.new with
    | none =>
      simp only [newM]
      rw [hu, ite_self]
    | some c =>
      simp only [newM, put]
      by_cases h : d = k
      · subst h; simp
      · have h' : ¬ k = d := fun x => h x.symm
        rw [if_neg h', if_neg h]; exact hu

theorem app_n (e : Ev) (s : St) : (e.app s).n = s.n := by unfold Ev.app; cases e.dst <;> rfl

/-- two operations that do not meet -/
structure Apart (e f : Ev) : Prop where
  dst : ∀ d, e.dst = some d → f.dst ≠ some d
  mem : ∀ k v, e.at k = some v → f.at k = none
  v1 : ∀ d, e.dst = some d → ∀ k ∈ e.res.v.keys, k ∉ f.res.pg
  v2 : ∀ d, f.dst = some d → ∀ k ∈ f.res.v.keys, k ∉ e.res.pg
  c1 : ∀ k v, e.at k = some v → ∀ j ∈ v.keys, j ∉ f.res.pg
  c2 : ∀ k v, f.at k = some v → ∀ j ∈ v.keys, j ∉ e.res.pg

theorem St.ext' {s t : St} (h1 : ∀ k, s.env k = t.env k) (h2 : ∀ k, s.mem k = t.mem k) (h3 : s.n = t.n) : s = t := by
  cases s; cases t
  simp only [St.mk.injEq]
  exact ⟨funext h1, funext h2, h3⟩

theorem app_comm {e f : Ev} (h : Apart e f) (s : St) : f.app (e.app s) = e.app (f.app s) := by
  refine St.ext' (fun t => ?_) (fun k => ?_) (by simp only [app_n])
  · simp only [app_env]
    by_cases h1 : f.dst = some t
    · have h2 : ¬ e.dst = some t := fun x => h.dst t x h1
      rw [if_pos h1, if_neg h2, if_pos h1, purge1_keep (h.v2 t h1)]
    · rw [if_neg h1, if_neg h1]
      by_cases h2 : e.dst = some t
      · rw [if_pos h2, if_pos h2, purge1_keep (h.v1 t h2)]
      · rw [if_neg h2, if_neg h2, purge1_comm]
  · simp only [app_mem]
    cases h1 : f.at k with
    | some v =>
      have h2 : e.at k = none := by
        cases h2 : e.at k with
        | none => rfl
        | some u => rw [h.mem k u h2] at h1; cases h1
      rw [h2]
      exact (purge1_keep (h.c2 k v h1)).symm
    | none =>
      cases h2 : e.at k with
      | some v => exact purge1_keep (h.c1 k v h2)
      | none => exact purge1_comm _ _ _

/-- the state behind those of the first m operations that are listed, in the text's order -/
noncomputable def sig (S : Nat → Bool) (evs : List Ev) (st : St) : Nat → St
  | 0 => st
  | m + 1 => match evs[m]? with
    | some e => if S m = true then e.app (sig S evs st m) else sig S evs st m
    | none => sig S evs st m

theorem sig_n (S : Nat → Bool) (evs : List Ev) (st : St) : ∀ m, (sig S evs st m).n = st.n
  | 0 => rfl
  | m + 1 => by
    simp only [sig]
    cases evs[m]? with
    | none => exact sig_n S evs st m
    | some e =>
      dsimp only
      split
      · rw [app_n]; exact sig_n S evs st m
      · exact sig_n S evs st m

theorem sig_insert {S : Nat → Bool} {evs : List Ev} {st : St} {p : Nat} {e : Ev} (he : evs[p]? = some e) (hp : S p = false) (hc : ∀ j f, p < j → evs[j]? = some f → S j = true → Apart e f) :
    ∀ m, sig (fun x => S x || x == p) evs st m = if p < m then e.app (sig S evs st m) else sig S evs st m
  | 0 => by simp [sig]
  | m + 1 => by
    simp only [sig]
    have ih := sig_insert (st := st) he hp hc m
    cases hm : evs[m]? with
    | none =>
      dsimp only
      rw [ih]
      by_cases h1 : p < m
      · rw [if_pos h1, if_pos (by omega)]
      · rw [if_neg h1]
        have : p ≠ m := fun x => by subst x; rw [he] at hm; cases hm
        rw [if_neg (by omega)]
    | some f =>
      dsimp only
      by_cases h0 : m = p
      · subst h0
        rw [he] at hm
        cases hm
        rw [ih]
        simp [hp]
      · have hbeq : (m == p) = false := by simp [h0]
        simp only [hbeq, Bool.or_false]
        by_cases h1 : p < m
        · rw [if_pos h1] at ih
          rw [ih, if_pos (show p < m + 1 by omega)]
          by_cases h2 : S m = true
          · rw [if_pos h2, if_pos h2]; exact app_comm (hc m f h1 hm h2) _
          · rw [if_neg h2, if_neg h2]
        · rw [if_neg h1] at ih
          rw [ih, if_neg (show ¬ p < m + 1 by omega)]

/-- what is read stays what it was, whatever is listed or not beside -/
theorem sig_env {S T : Nat → Bool} {evs : List Ev} {st : St} {t : Nat} {v : V} (hx : ∀ j f, evs[j]? = some f → S j ≠ T j → f.dst ≠ some t ∧ ∀ k ∈ v.keys, k ∉ f.res.pg) :
    ∀ m, (sig T evs st m).env t = some v → (sig S evs st m).env t = some v
  | 0, h => h
  | m + 1, h => by
    simp only [sig] at h ⊢
    cases hm : evs[m]? with
    | none => rw [hm] at h; exact sig_env hx m h
    | some f =>
      rw [hm] at h
      dsimp only at h ⊢
      cases hT : T m <;> cases hS : S m
      · simp only [hT, Bool.false_eq_true, if_false] at h ⊢; exact sig_env hx m h
      · simp only [hT, Bool.false_eq_true, if_false] at h
        have := hx m f hm (by rw [hT, hS]; simp)
        simp only [if_true, app_env]
        rw [if_neg this.1, sig_env hx m h]
        exact purge1_keep this.2
      · simp only [hT, if_true, app_env] at h
        have := hx m f hm (by rw [hT, hS]; simp)
        rw [if_neg this.1] at h
        simp only [Bool.false_eq_true, if_false]
        exact sig_env hx m (purge1_some h).1
      · simp only [hT, if_true, app_env] at h ⊢
        by_cases hd : f.dst = some t
        · rw [if_pos hd] at h ⊢; exact h
        · rw [if_neg hd] at h ⊢
          obtain ⟨h1, h2⟩ := purge1_some h
          rw [sig_env hx m h1]
          exact purge1_keep h2

theorem sig_mem {S T : Nat → Bool} {evs : List Ev} {st : St} {t : Nat} {v : V} (hx : ∀ j f, evs[j]? = some f → S j ≠ T j → f.at t = none ∧ ∀ k ∈ v.keys, k ∉ f.res.pg) :
    ∀ m, (sig T evs st m).mem t = some v → (sig S evs st m).mem t = some v
  | 0, h => h
  | m + 1, h => by
    simp only [sig] at h ⊢
    cases hm : evs[m]? with
    | none => rw [hm] at h; exact sig_mem hx m h
    | some f =>
      rw [hm] at h
      dsimp only at h ⊢
      cases hT : T m <;> cases hS : S m
      · simp only [hT, Bool.false_eq_true, if_false] at h ⊢; exact sig_mem hx m h
      · simp only [hT, Bool.false_eq_true, if_false] at h
        have := hx m f hm (by rw [hT, hS]; simp)
        simp only [if_true, app_mem, this.1]
        rw [sig_mem hx m h]
        exact purge1_keep this.2
      · simp only [hT, if_true, app_mem] at h
        have := hx m f hm (by rw [hT, hS]; simp)
        rw [this.1] at h
        simp only [Bool.false_eq_true, if_false]
        exact sig_mem hx m (purge1_some h).1
      · simp only [hT, if_true, app_mem] at h ⊢
        cases hd : f.at t with
        | some u => rw [hd] at h; exact h
        | none =>
          rw [hd] at h
          obtain ⟨h1, h2⟩ := purge1_some h
          dsimp only
          rw [sig_mem hx m h1]
          exact purge1_keep h2

end Go.Vm

/- The rule for a region whose order is drawn. -/
namespace Go.Vm
open Go
set_option linter.unusedVariables false

/-- one operation, with what it read -/
structure Rec where
  ev : Ev
  rk : List Nat
  ck : List Nat

noncomputable def keysAt (M : Nat → Option V) : List Nat → Option (List Nat)
  | [] => some []
  | k :: ks => match M k with
    | some x => match keysAt M ks with
      | some l => some (x.keys ++ l)
      | none => none
    | none => none

noncomputable def dstOK (n : Nat) (dst : Option Nat) (r : Res) : Bool :=
  match dst with
  | some d => decide (d < n)
  | none => r.new.isNone && r.pg.isEmpty

/-- a value that is only handed on -/
def isMove : Op → Bool
  | .move _ => true
  | _ => false
noncomputable def keysAtO (op : Op) (M : Nat → Option V) (ks : List Nat) : Option (List Nat) := if isMove op = true then some [] else keysAt M ks
theorem kO_move {q : Operand} {M : Nat → Option V} {ks : List Nat} : keysAtO (.move q) M ks = some [] := rfl
theorem kO_else {op : Op} {M : Nat → Option V} {ks l : List Nat} (h : isMove op = false) (h2 : keysAt M ks = some l) : keysAtO op M ks = some l := by unfold keysAtO; rw [h]; exact h2

noncomputable def recOp (Γ : Ctx) (st : St) (o : Oper) : Option Rec :=
  match argsOf Γ st.env o.op with
  | some args => match act Γ (restr (args.flatMap V.keys) st.mem) (o.dst.getD 0) o.op args with
    | some r => match keysAtO o.op st.mem (args.flatMap V.keys) with
      | some ck => chk (dstOK st.n o.dst r = true) (some { ev := { dst := o.dst, res := r }, rk := args.flatMap V.keys, ck := ck })
      | none => none
    | none => none
  | none => none

noncomputable def recStep (Γ : Ctx) (all : List Oper) (st : St) (o : Oper) : Option Rec :=
  match o.guard with
  | none => recOp Γ st o
  | some (j, want) => match guardB all st j want with
    | some x => if x = want then recOp Γ st o else chk (dstOK st.n o.dst { v := .tup [] } = true) (some { ev := { dst := o.dst, res := { v := .tup [] } }, rk := [], ck := [] })
    | none => none

noncomputable def recs (Γ : Ctx) (all : List Oper) (st : St) : List Oper → Option (List Rec × St)
  | [] => some ([], st)
  | o :: os => match recStep Γ all st o with
    | some r => match recs Γ all (r.ev.app st) os with
      | some (rs, s) => some (r :: rs, s)
      | none => none
    | none => none

section
variable {Γ : Ctx} {st : St} {o : Oper}

theorem recOp_run {r : Rec} (h : recOp Γ st o = some r) : runOp Γ st o = some (r.ev.app st) ∧ r.ev.dst = o.dst := by
  unfold recOp at h
  unfold runOp
  cases h1 : argsOf Γ st.env o.op with
  | none => rw [h1] at h; cases h
  | some args =>
    rw [h1] at h
    dsimp only at h ⊢
    cases h2 : act Γ (restr (args.flatMap V.keys) st.mem) (o.dst.getD 0) o.op args with
    | none => rw [h2] at h; cases h
    | some res =>
      rw [h2] at h
      dsimp only at h ⊢
      cases h3 : keysAtO o.op st.mem (args.flatMap V.keys) with
      | none => rw [h3] at h; cases h
      | some ck =>
        rw [h3] at h
        obtain ⟨g1, g2⟩ := chk_some h
        cases g2
        refine ⟨?_, rfl⟩
        unfold St.after Ev.app
        cases hd : o.dst with
        | some d =>
          dsimp only
          rw [hd] at g1
          exact chk_ok (by simpa [dstOK] using g1)
        | none =>
          dsimp only
          rw [hd] at g1
          simp only [dstOK, Bool.and_eq_true, Option.isNone_iff_eq_none, List.isEmpty_iff] at g1
          rw [g1.1]
          exact chk_ok g1.2

theorem recStep_run {all : List Oper} {r : Rec} (h : recStep Γ all st o = some r) : step Γ all st o = some (r.ev.app st) ∧ r.ev.dst = o.dst := by
  unfold recStep at h
  unfold step
  cases hg : o.guard with
  | none => rw [hg] at h; exact recOp_run h
  | some p =>
    obtain ⟨j, want⟩ := p
    rw [hg] at h
    dsimp only at h ⊢
    cases hx : guardB all st j want with
    | none => rw [hx] at h; cases h
    | some x =>
      rw [hx] at h
      dsimp only at h ⊢
      by_cases hw : x = want
      · rw [if_pos hw] at h ⊢; exact recOp_run h
      · rw [if_neg hw] at h ⊢
        obtain ⟨g1, g2⟩ := chk_some h
        cases g2
        refine ⟨?_, rfl⟩
        have : (∀ d, o.dst = some d → d < st.n) := by
          intro d hd
          rw [hd] at g1
          simpa [dstOK] using g1
        rw [chk_ok this]
        unfold skipOp Ev.app
        cases hd : o.dst with
        | some d => rfl
        | none => rfl

theorem keysAt_some {M : Nat → Option V} : ∀ {ks l : List Nat}, keysAt M ks = some l → ∀ k ∈ ks, ∃ x, M k = some x ∧ ∀ j ∈ x.keys, j ∈ l
  | [], l, h, k, hk => by cases hk
  | q :: ks, l, h, k, hk => by
    simp only [keysAt] at h
    cases h1 : M q with
    | none => rw [h1] at h; cases h
    | some x =>
      rw [h1] at h
      cases h2 : keysAt M ks with
      | none => rw [h2] at h; cases h
      | some l' =>
        rw [h2] at h
        cases h
        rcases List.mem_cons.1 hk with rfl | hk
        · exact ⟨x, h1, fun j hj => List.mem_append.2 (.inl hj)⟩
        · obtain ⟨y, e1, e2⟩ := keysAt_some h2 k hk
          exact ⟨y, e1, fun j hj => List.mem_append.2 (.inr (e2 j hj))⟩

theorem keysAt_same {M M' : Nat → Option V} : ∀ {ks l : List Nat}, keysAt M ks = some l → (∀ k ∈ ks, M' k = M k) → keysAt M' ks = some l
  | [], l, h, _ => h
  | q :: ks, l, h, he => by
    simp only [keysAt] at h ⊢
    rw [he q (by simp)]
    cases h1 : M q with
    | none => rw [h1] at h; cases h
    | some x =>
      rw [h1] at h
      cases h2 : keysAt M ks with
      | none => rw [h2] at h; cases h
      | some l' =>
        rw [h2] at h
        cases h
        dsimp only
        rw [keysAt_same h2 (fun k hk => he k (by simp [hk]))]

theorem mapO_same {α β : Type} {f g : α → Option β} : ∀ {as : List α} {bs : List β}, mapO f as = some bs → (∀ a ∈ as, ∀ b ∈ bs, f a = some b → g a = some b) → mapO g as = some bs
  | [], bs, h, _ => h
  | a :: as, bs, h, he => by
    simp only [mapO] at h ⊢
    cases h1 : f a with
    | none => rw [h1] at h; cases h
    | some b =>
      rw [h1] at h
      cases h2 : mapO f as with
      | none => rw [h2] at h; cases h
      | some bs' =>
        rw [h2] at h
        cases h
        rw [he a (by simp) b (by simp) h1]
        dsimp only
        rw [mapO_same h2 (fun a ha b hb => he a (by simp [ha]) b (by simp [hb]))]

/-- an operation does the same where it reads the same -/
theorem recStep_same {ops : Array Oper} {s t : St} {r : Rec} (h : recStep Γ ops.toList t o = some r) (hn : s.n = t.n)
    (he : ∀ d ∈ o.looksAt ops, ∀ v, t.env d = some v → (∀ k ∈ v.keys, k ∈ r.rk) → s.env d = some v)
    (hm : isMove o.op = false → ∀ k ∈ r.rk, ∀ x, t.mem k = some x → (∀ j ∈ x.keys, j ∈ r.ck) → s.mem k = some x) : recStep Γ ops.toList s o = some r := by
  have main : ∀ {r : Rec}, recOp Γ t o = some r → (∀ d ∈ o.looksAt ops, ∀ v, t.env d = some v → (∀ k ∈ v.keys, k ∈ r.rk) → s.env d = some v) →
      (isMove o.op = false → ∀ k ∈ r.rk, ∀ x, t.mem k = some x → (∀ j ∈ x.keys, j ∈ r.ck) → s.mem k = some x) → recOp Γ s o = some r := by
    intro r h he hm
    unfold recOp at h ⊢
    cases h1 : argsOf Γ t.env o.op with
    | none => rw [h1] at h; cases h
    | some args =>
      rw [h1] at h
      dsimp only at h
      cases h2 : act Γ (restr (args.flatMap V.keys) t.mem) (o.dst.getD 0) o.op args with
      | none => rw [h2] at h; cases h
      | some res =>
        rw [h2] at h
        dsimp only at h
        cases h3 : keysAtO o.op t.mem (args.flatMap V.keys) with
        | none => rw [h3] at h; cases h
        | some ck =>
          rw [h3] at h
          obtain ⟨g1, g2⟩ := chk_some h
          cases g2
          have ha : argsOf Γ s.env o.op = some args := by
            unfold argsOf at h1 ⊢
            refine mapO_same h1 (fun x hx v hv hxv => ?_)
            cases x with
            | tmp d =>
              refine he d ?_ v hxv (fun k hk => List.mem_flatMap.2 ⟨v, hv, hk⟩)
              unfold Oper.looksAt
              exact List.mem_append.2 (.inl (List.mem_filterMap.2 ⟨.tmp d, hx, rfl⟩))
            | const c => exact hxv
            | global g => exact hxv
            | func f => exact hxv
          have fin : act Γ (restr (args.flatMap V.keys) s.mem) (o.dst.getD 0) o.op args = some res ∧ keysAtO o.op s.mem (args.flatMap V.keys) = some ck := by
            cases hmv : isMove o.op with
            | true =>
              cases ho : o.op with
              | move q => rw [ho] at h2 h3; exact ⟨h2, h3⟩
              | _ => rw [ho] at hmv; cases hmv
            | false =>
              have h3' : keysAt t.mem (args.flatMap V.keys) = some ck := by
                unfold keysAtO at h3
                rw [hmv] at h3
                exact h3
              have hms : ∀ k ∈ args.flatMap V.keys, s.mem k = t.mem k := by
                intro k hk
                obtain ⟨x, e1, e2⟩ := keysAt_some h3' k hk
                rw [e1]; exact hm hmv k hk x e1 e2
              have hr : restr (args.flatMap V.keys) s.mem = restr (args.flatMap V.keys) t.mem := by
                funext k
                unfold restr
                by_cases hk : (args.flatMap V.keys).contains k = true
                · rw [chk_ok hk, chk_ok hk]; exact hms k (by simpa using hk)
                · unfold chk; rw [if_neg hk, if_neg hk]
              exact ⟨by rw [hr]; exact h2, kO_else hmv (keysAt_same h3' hms)⟩
          rw [ha]
          dsimp only
          rw [fin.1]
          dsimp only
          rw [fin.2]
          dsimp only
          rw [hn]
          exact chk_ok g1
  unfold recStep at h ⊢
  cases hg : o.guard with
  | none => rw [hg] at h; exact main h he hm
  | some p =>
    obtain ⟨j, want⟩ := p
    rw [hg] at h
    dsimp only at h ⊢
    cases hx : guardB ops.toList t j want with
    | none => rw [hx] at h; cases h
    | some x =>
      rw [hx] at h
      dsimp only at h
      have hxs : guardB ops.toList s j want = some x := by
        unfold guardB at hx ⊢
        cases hj : ops.toList[j]? with
        | none => rw [hj] at hx; cases hx
        | some q =>
          rw [hj] at hx
          dsimp only at hx ⊢
          cases hd : q.dst with
          | none => rw [hd] at hx; cases hx
          | some d =>
            rw [hd] at hx
            dsimp only at hx ⊢
            cases hv : t.env d with
            | none => rw [hv] at hx; cases hx
            | some v =>
              rw [hv] at hx
              cases v with
              | b y =>
                cases hx
                rw [he d ?_ _ hv (fun k hk => by cases hk)]
                unfold Oper.looksAt
                refine List.mem_append.2 (.inr ?_)
                rw [hg]
                have : ops[j]? = some q := by rw [← Array.getElem?_toList]; exact hj
                simp [this, hd]
              | tup l =>
                cases l with
                | cons y ys => cases hx
                | nil =>
                  cases hx
                  rw [he d ?_ _ hv (fun k hk => by cases hk)]
                  unfold Oper.looksAt
                  refine List.mem_append.2 (.inr ?_)
                  rw [hg]
                  have : ops[j]? = some q := by rw [← Array.getElem?_toList]; exact hj
                  simp [this, hd]
              | _ => cases hx
      rw [hxs]
      dsimp only
      by_cases hw : x = want
      · rw [if_pos hw] at h ⊢; exact main h he hm
      · rw [if_neg hw] at h ⊢
        rw [hn]; exact h

end
end Go.Vm


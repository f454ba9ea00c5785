/- The abstract machine by which the walks of this claim are made: part 3 of 4. Nothing in it speaks of a program. -/
import Derived.Test.YthjgpkaamgoodaaVb
import Derived.KernelRfl
import Derived.OpenShut
import Derived.ChangeArms
import Derived.Carry
import Derived.WideShapes
import Derived.FnData
import Derived.ChangeSlices
import Derived.SizedLaws
/- The rule for a region whose order is drawn: the check, and the rule. -/
namespace Go.Vm
open Go
set_option linter.unusedVariables false

/-- what an operation touches, in keys -/
structure Foot where
  rk : List Nat
  ck : List Nat
  pg : List Nat
  up : List Nat
  vk : List Nat

noncomputable def Rec.foot (r : Rec) : Foot :=
  { rk := r.rk, ck := r.ck, pg := r.ev.res.pg
    up := r.ev.res.upd.map (·.1) ++ (match r.ev.dst with | some d => (match r.ev.res.new with | some _ => [d] | none => []) | none => [])
    vk := r.ev.res.v.keys ++ r.ev.res.upd.flatMap (·.2.keys) ++ (match r.ev.res.new with | some c => c.keys | none => []) }

def disj (a b : List Nat) : Bool := a.all fun x => !b.contains x

def dstNe : Option Nat → List Nat → Bool
  | some d, l => !l.contains d
  | none, _ => true

def pairOK (ops : Array Oper) (x y : Oper) (f g : Foot) : Bool :=
  dstNe x.dst y.dst.toList && dstNe x.dst (y.looksAt ops) && dstNe y.dst (x.looksAt ops) && disj f.up g.up && disj f.vk g.pg && disj g.vk f.pg && (isMove y.op || disj f.up g.rk) && (isMove x.op || disj g.up f.rk) &&
    disj f.rk g.pg && disj f.ck g.pg && disj g.rk f.pg && disj g.ck f.pg

def preds (o : Oper) : List Nat := (o.after.toList.filter fun e => Region.binds .any e).map (·.on)

/-- whatever must come before, near and far -/
def ancs : List (List Nat) → List Oper → List (List Nat)
  | acc, [] => acc
  | acc, o :: os => ancs (acc ++ [((preds o).flatMap fun p => p :: acc.getD p []).eraseDups]) os

def edgesOK (l : List Oper) (A : List (List Nat)) : Bool :=
  (List.range l.length).all fun i => match l[i]? with
    | some o => (preds o).all (· < i) && (A.getD i []).all fun x => (preds o).any fun p => p == x || (A.getD p []).contains x
    | none => false

def drawOK (ops : Array Oper) (A : List (List Nat)) (fs : List Foot) : Bool :=
  fs.length == ops.size && edgesOK ops.toList A &&
  (List.range ops.size).all fun j => (List.range j).all fun i => (A.getD j []).contains i ||
    match ops.toList[i]? with
    | some x => match ops.toList[j]? with
      | some y => match fs[i]? with
        | some f => match fs[j]? with
          | some g => pairOK ops x y f g
          | none => false
        | none => false
      | none => false
    | none => false

theorem disj_spec {a b : List Nat} (h : disj a b = true) : ∀ k ∈ a, k ∉ b := by
  intro k hk hc
  unfold disj at h
  rw [List.all_eq_true] at h
  have := h k hk
  simp only [Bool.not_eq_true', List.contains_eq_mem, decide_eq_false_iff_not] at this
  exact this hc

theorem dstNe_spec {o : Option Nat} {l : List Nat} (h : dstNe o l = true) : ∀ d, o = some d → d ∉ l := by
  rintro d rfl hc
  simp only [dstNe, Bool.not_eq_true', List.contains_eq_mem, decide_eq_false_iff_not] at h
  exact h hc

theorem lookN_mem {k : Nat} {v : V} : ∀ {us : List (Nat × V)}, lookN k us = some v → (k, v) ∈ us
  | [], h => by cases h
  | (i, x) :: us, h => by
    simp only [lookN] at h
    by_cases e : i = k
    · rw [if_pos e] at h; cases h; subst e; simp
    · rw [if_neg e] at h; exact List.mem_cons.2 (.inr (lookN_mem h))

theorem at_foot {r : Rec} {k : Nat} {v : V} (h : r.ev.at k = some v) : k ∈ r.foot.up ∧ ∀ j ∈ v.keys, j ∈ r.foot.vk := by
  have hl : lookN k r.ev.res.upd = some v → k ∈ r.foot.up ∧ ∀ j ∈ v.keys, j ∈ r.foot.vk := by
    intro h
    have hm := lookN_mem h
    refine ⟨List.mem_append.2 (.inl (List.mem_map.2 ⟨(k, v), hm, rfl⟩)), fun j hj => ?_⟩
    exact List.mem_append.2 (.inl (List.mem_append.2 (.inr (List.mem_flatMap.2 ⟨(k, v), hm, hj⟩))))
  unfold Ev.at at h
  cases hd : r.ev.dst with
  | none => rw [hd] at h; exact hl h
  | some d =>
    rw [hd] at h
    dsimp only at h
    by_cases e : d = k
    · rw [if_pos e] at h
      cases hn : r.ev.res.new with
      | none => rw [hn] at h; exact hl h
      | some c =>
        rw [hn] at h
        cases h
        subst e
        refine ⟨List.mem_append.2 (.inr ?_), fun j hj => List.mem_append.2 (.inr ?_)⟩
        · rw [hd, hn]; simp
        · rw [hn]; exact hj
    · rw [if_neg e] at h; exact hl h

section
variable {P : Program} {gl : Nat → Option Row} {w0 : World} {ext : Nat → Nat → Prop} {av : Nat → Prop} {φ : Nat → Option Nat} {st st' : St} {a : Act} {w : World} {Γ : Ctx} {Q : Exit → Act → World → Prop} {ops : Array Oper}

structure Pair (ops : Array Oper) (x y : Oper) (r s : Rec) : Prop where
  d1 : ∀ d, x.dst = some d → y.dst ≠ some d
  d2 : ∀ d, x.dst = some d → d ∉ y.looksAt ops
  d3 : ∀ d, y.dst = some d → d ∉ x.looksAt ops
  up : ∀ k ∈ r.foot.up, k ∉ s.foot.up
  v1 : ∀ k ∈ r.foot.vk, k ∉ s.foot.pg
  v2 : ∀ k ∈ s.foot.vk, k ∉ r.foot.pg
  u1 : isMove y.op = false → ∀ k ∈ r.foot.up, k ∉ s.foot.rk
  u2 : isMove x.op = false → ∀ k ∈ s.foot.up, k ∉ r.foot.rk
  p1 : ∀ k ∈ r.foot.rk, k ∉ s.foot.pg
  p2 : ∀ k ∈ r.foot.ck, k ∉ s.foot.pg
  p3 : ∀ k ∈ s.foot.rk, k ∉ r.foot.pg
  p4 : ∀ k ∈ s.foot.ck, k ∉ r.foot.pg

theorem pairOK_spec {x y : Oper} {r s : Rec} (h : pairOK ops x y r.foot s.foot = true) : Pair ops x y r s := by
  unfold pairOK at h
  simp only [Bool.and_eq_true] at h
  obtain ⟨⟨⟨⟨⟨⟨⟨⟨⟨⟨⟨h1, h2⟩, h3⟩, h4⟩, h5⟩, h6⟩, h7⟩, h8⟩, h9⟩, h10⟩, h11⟩, h12⟩ := h
  refine ⟨fun d hd he => dstNe_spec h1 d hd (by rw [he]; simp), dstNe_spec h2, dstNe_spec h3, disj_spec h4, disj_spec h5, disj_spec h6, fun c => disj_spec (by rw [c] at h7; simpa using h7), fun c => disj_spec (by rw [c] at h8; simpa using h8), disj_spec h9, disj_spec h10, disj_spec h11, disj_spec h12⟩

theorem Pair.symm {x y : Oper} {r s : Rec} (h : Pair ops x y r s) : Pair ops y x s r :=
  ⟨fun d hd he => h.d1 d he hd, h.d3, h.d2, fun k hk hc => h.up k hc hk, h.v2, h.v1, h.u2, h.u1, h.p3, h.p4, h.p1, h.p2⟩

theorem Pair.apart {x y : Oper} {r s : Rec} (h : Pair ops x y r s) (hx : r.ev.dst = x.dst) (hy : s.ev.dst = y.dst) : Apart r.ev s.ev := by
  refine ⟨fun d hd he => h.d1 d (hx ▸ hd) (hy ▸ he), fun k v hk => ?_, fun d hd k hk => ?_, fun d hd k hk => ?_, fun k v hk j hj => ?_, fun k v hk j hj => ?_⟩
  · cases hs : s.ev.at k with
    | none => rfl
    | some u => exact absurd (at_foot hs).1 (h.up k (at_foot hk).1)
  · exact h.v1 k (List.mem_append.2 (.inl (List.mem_append.2 (.inl hk))))
  · exact h.v2 k (List.mem_append.2 (.inl (List.mem_append.2 (.inl hk))))
  · exact h.v1 j ((at_foot hk).2 j hj)
  · exact h.v2 j ((at_foot hk).2 j hj)

/-- what was recorded, place by place -/
theorem recs_at {all : List Oper} : ∀ {os : List Oper} {st st' : St} {rs : List Rec}, recs Γ all st os = some (rs, st') →
    rs.length = os.length ∧ st' = sig (fun _ => true) (rs.map (·.ev)) st rs.length ∧
    ∀ i o, os[i]? = some o → ∃ r, rs[i]? = some r ∧ recStep Γ all (sig (fun _ => true) (rs.map (·.ev)) st i) o = some r
  | [], st, st', rs, h => by cases h; exact ⟨rfl, rfl, fun i o h => by simp at h⟩
  | o :: os, st, st', rs, h => by
    simp only [recs] at h
    cases h1 : recStep Γ all st o with
    | none => rw [h1] at h; cases h
    | some r =>
      rw [h1] at h
      dsimp only at h
      cases h2 : recs Γ all (r.ev.app st) os with
      | none => rw [h2] at h; cases h
      | some p =>
        obtain ⟨rs', s⟩ := p
        rw [h2] at h
        cases h
        obtain ⟨k1, k2, k3⟩ := recs_at h2
        have shift : ∀ m, sig (fun _ => true) ((r :: rs').map (·.ev)) st (m + 1) = sig (fun _ => true) (rs'.map (·.ev)) (r.ev.app st) m := by
          intro m
          induction m with
          | zero => simp [sig]
          | succ m ih =>
            rw [sig, ih]
            conv => rhs; rw [sig]
            simp only [List.map_cons, List.getElem?_cons_succ]
        refine ⟨by simp [k1], by rw [List.length_cons, shift]; exact k2, fun i q hq => ?_⟩
        cases i with
        | zero => simp at hq; subst hq; exact ⟨r, by simp, h1⟩
        | succ i =>
          obtain ⟨r', e1, e2⟩ := k3 i q (by simpa using hq)
          exact ⟨r', by simpa using e1, by rw [shift]; exact e2⟩

end
end Go.Vm

/- The rule for a region whose order is drawn. -/
namespace Go.Vm
open Go
set_option linter.unusedVariables false

theorem filter_lt {α : Type} {p q : α → Bool} (hpq : ∀ x, q x = true → p x = true) : ∀ {l : List α} {x : α}, x ∈ l → p x = true → q x = false → (l.filter q).length < (l.filter p).length
  | [], x, h, _, _ => by cases h
  | y :: l, x, h, hp, hq => by
    have le : ∀ l : List α, (l.filter q).length ≤ (l.filter p).length := by
      intro l
      induction l with
      | nil => exact Nat.le_refl _
      | cons z l ih =>
        simp only [List.filter_cons]
        cases h1 : q z with
        | true => rw [hpq z h1]; simp; exact ih
        | false => cases p z <;> simp <;> omega
    simp only [List.filter_cons]
    rcases List.mem_cons.1 h with rfl | h
    · rw [hp, hq]; simp; have := le l; omega
    · have ih := filter_lt hpq h hp hq
      cases h1 : q y with
      | true => rw [hpq y h1]; simp; exact ih
      | false => cases p y <;> simp <;> omega

section
variable {P : Program} {gl : Nat → Option Row} {w0 : World} {ext : Nat → Nat → Prop} {av : Nat → Prop} {φ : Nat → Option Nat} {st st' : St} {a : Act} {w : World} {Γ : Ctx} {Q : Exit → Act → World → Prop} {ops : Array Oper}

theorem sig_congr {S T : Nat → Bool} {evs : List Ev} {st : St} : ∀ m, (∀ j, j < m → S j = T j) → sig S evs st m = sig T evs st m
  | 0, _ => rfl
  | m + 1, h => by
    simp only [sig]
    rw [sig_congr m (fun j hj => h j (by omega)), h m (by omega)]

theorem sig_prefix {evs : List Ev} {st : St} {i : Nat} : ∀ m, i ≤ m → sig (fun j => decide (j < i)) evs st m = sig (fun _ => true) evs st i
  | 0, h => by
    have : i = 0 := by omega
    subst this; rfl
  | m + 1, h => by
    by_cases e : i = m + 1
    · subst e
      exact sig_congr _ (fun j hj => by simp [hj])
    · rw [sig, sig_prefix m (by omega)]
      have : ¬ m < i := by omega
      simp only [this, decide_false, Bool.false_eq_true, if_false]
      split <;> rfl

def todo (n : Nat) (listed : Array Bool) : Nat := ((List.range n).filter fun i => !listed.getD i true).length

theorem draw_any (G : Good P gl Γ) {rs : List Rec} {A : List (List Nat)} (hrec : recs Γ ops.toList st ops.toList = some (rs, st')) (hok : drawOK ops A (rs.map Rec.foot) = true)
    (hQ : ∀ φ a w, Rel gl w0 ext av φ st' a w → Q .normal a w) : ∀ (fuel : Nat) (listed : Array Bool) {φ : Nat → Option Nat} {a : Act} {w : World}, listed.size = ops.size →
      (∀ i o, listed.getD i false = true → ops[i]? = some o → ∀ p ∈ preds o, listed.getD p false = true) → todo ops.size listed ≤ fuel →
      Rel gl w0 ext av φ (sig (fun j => listed.getD j false) (rs.map (·.ev)) st ops.size) a w → wpAny P .any ops Q fuel listed a w := by
  obtain ⟨hlen, hst, hat⟩ := recs_at hrec
  unfold drawOK at hok
  simp only [Bool.and_eq_true] at hok
  obtain ⟨⟨_, hedge⟩, hpair⟩ := hok
  have hlen' : rs.length = ops.size := by simpa using hlen
  -- the edges
  have hE : ∀ i o, ops[i]? = some o → (∀ p ∈ preds o, p < i) ∧ ∀ x ∈ A.getD i [], ∃ p ∈ preds o, p = x ∨ x ∈ A.getD p [] := by
    intro i o ho
    have hlt : i < ops.size := (Array.getElem?_eq_some_iff.1 ho).1
    unfold edgesOK at hedge
    rw [List.all_eq_true] at hedge
    have := hedge i (by simpa using hlt)
    rw [Array.getElem?_toList, ho] at this
    simp only [Bool.and_eq_true, List.all_eq_true, decide_eq_true_eq, List.any_eq_true, Bool.or_eq_true, beq_iff_eq] at this
    refine ⟨this.1, fun x hx => ?_⟩
    obtain ⟨p, hp, hpx⟩ := this.2 x hx
    exact ⟨p, hp, hpx.imp id (fun h => by simpa using h)⟩
  -- what must come before is listed
  have hanc : ∀ (listed : Array Bool), (∀ i o, listed.getD i false = true → ops[i]? = some o → ∀ p ∈ preds o, listed.getD p false = true) →
      ∀ i o, ops[i]? = some o → (∀ p ∈ preds o, listed.getD p false = true) → ∀ x ∈ A.getD i [], listed.getD x false = true := by
    intro listed hcl i
    induction i using Nat.strongRecOn with
    | _ i ih =>
      intro o ho hp x hx
      obtain ⟨hlt, hA⟩ := hE i o ho
      obtain ⟨p, hpp, hpx⟩ := hA x hx
      rcases hpx with rfl | hpx
      · exact hp p hpp
      · have hpi := hlt p hpp
        have hio : i < ops.size := (Array.getElem?_eq_some_iff.1 ho).1
        have hpo : ops[p]? = some ops[p] := Array.getElem?_eq_getElem (by omega)
        exact ih p hpi ops[p] hpo (fun q hq => hcl p ops[p] (hp p hpp) hpo q hq) x hpx
  -- two that may change places
  have hP : ∀ i j x y r s, i < j → ops[i]? = some x → ops[j]? = some y → rs[i]? = some r → rs[j]? = some s → i ∉ A.getD j [] → Pair ops x y r s := by
    intro i j x y r s hij hx hy hr hs hn
    have hjlt : j < ops.size := (Array.getElem?_eq_some_iff.1 hy).1
    rw [List.all_eq_true] at hpair
    have h1 := hpair j (by simpa using hjlt)
    rw [List.all_eq_true] at h1
    have h2 := h1 i (by simpa using hij)
    simp only [Bool.or_eq_true] at h2
    rcases h2 with h2 | h2
    · exact absurd (by simpa using h2) hn
    · rw [Array.getElem?_toList, hx] at h2
      dsimp only at h2
      rw [Array.getElem?_toList, hy] at h2
      dsimp only at h2
      rw [List.getElem?_map, hr] at h2
      simp only [Option.map_some] at h2
      rw [List.getElem?_map, hs] at h2
      exact pairOK_spec h2
  have getD_set : ∀ (listed : Array Bool) (i x : Nat) (b : Bool), i < listed.size → (listed.setIfInBounds i true).getD x b = if x = i then true else listed.getD x b := by
    intro listed i x b hi
    simp only [Array.getD_eq_getD_getElem?, Array.getElem?_setIfInBounds]
    by_cases h : i = x
    · subst h; simp [hi]
    · have h' : ¬ x = i := fun e => h e.symm
      simp [h, h']
  have getD_eq : ∀ (listed : Array Bool) (i : Nat) (b c : Bool), i < listed.size → listed.getD i b = listed.getD i c := by
    intro listed i b c hi
    simp only [Array.getD_eq_getD_getElem?]
    rw [Array.getElem?_eq_getElem hi]; rfl
  have fin : ∀ (listed : Array Bool) {φ : Nat → Option Nat} {a : Act} {w : World}, (∀ i, i < ops.size → listed.getD i false = true) →
      Rel gl w0 ext av φ (sig (fun j => listed.getD j false) (rs.map (·.ev)) st ops.size) a w → Q .normal a w := by
    intro listed φ a w hall hrel
    have : sig (fun j => listed.getD j false) (rs.map (·.ev)) st ops.size = st' := by
      rw [hst, hlen']
      exact sig_congr _ (fun j hj => hall j hj)
    rw [this] at hrel
    exact hQ _ _ _ hrel
  intro fuel
  induction fuel with
  | zero =>
    intro listed φ a w hsz hcl htodo hrel
    have hall : ∀ i, i < ops.size → listed.getD i false = true := by
      intro i hi
      cases hv : listed.getD i false with
      | true => rfl
      | false =>
        exfalso
        have hv' : listed.getD i true = false := by rw [getD_eq listed i true false (by omega)]; exact hv
        have : i ∈ (List.range ops.size).filter fun i => !listed.getD i true := List.mem_filter.2 ⟨by simpa using hi, by rw [hv']; rfl⟩
        have hl : ((List.range ops.size).filter fun i => !listed.getD i true).length = 0 := by unfold todo at htodo; omega
        rw [List.eq_nil_of_length_eq_zero hl] at this
        cases this
    refine ⟨?_, fin listed hall hrel⟩
    unfold Region.ready
    rw [List.filter_eq_nil_iff]
    intro i hi
    have hi' : i < ops.size := by simpa using hi
    rw [getD_eq listed i true false (by omega), hall i hi']
    simp
  | succ fuel ih =>
    intro listed φ a w hsz hcl htodo hrel
    have hready : ∀ i o, ops[i]? = some o → listed.getD i false = false → (∀ p ∈ preds o, listed.getD p false = true) → i ∈ Region.ready .any ops listed := by
      intro i o ho hi hp
      have hlt : i < ops.size := (Array.getElem?_eq_some_iff.1 ho).1
      unfold Region.ready
      refine List.mem_filter.2 ⟨by simpa using hlt, ?_⟩
      rw [getD_eq listed i true false (by omega), hi, ho]
      simp only [Option.map_some, Option.getD_some, Bool.not_false, Bool.true_and]
      rw [Array.all_eq_true']
      intro e he
      cases hb : Region.binds .any e with
      | false => rfl
      | true =>
        have : e.on ∈ preds o := List.mem_map.2 ⟨e, List.mem_filter.2 ⟨by simpa using he, hb⟩, rfl⟩
        simp [hp _ this]
    refine ⟨fun hnil => fin listed (fun i => ?_) hrel, fun i hi => ?_⟩
    · induction i using Nat.strongRecOn with
      | _ i ihi =>
        intro hlt
        cases hv : listed.getD i false with
        | true => rfl
        | false =>
          exfalso
          have ho : ops[i]? = some ops[i] := Array.getElem?_eq_getElem hlt
          have := hready i ops[i] ho hv (fun p hp => ihi p ((hE i _ ho).1 p hp) (by have := (hE i _ ho).1 p hp; omega))
          rw [hnil] at this
          cases this
    · unfold Region.ready at hi
      obtain ⟨hi1, hi2⟩ := List.mem_filter.1 hi
      have hlt : i < ops.size := by simpa using hi1
      have ho : ops[i]? = some ops[i] := Array.getElem?_eq_getElem hlt
      generalize ops[i] = o at ho
      rw [ho, getD_eq listed i true false (by omega)] at hi2
      simp only [Option.map_some, Option.getD_some, Bool.and_eq_true, Bool.not_eq_true'] at hi2
      obtain ⟨hni, hpa⟩ := hi2
      have hp : ∀ p ∈ preds o, listed.getD p false = true := by
        intro p hpm
        obtain ⟨e, he, rfl⟩ := List.mem_map.1 hpm
        obtain ⟨he1, he2⟩ := List.mem_filter.1 he
        rw [Array.all_eq_true'] at hpa
        have := hpa e (by simpa using he1)
        simpa [he2] using this
      obtain ⟨r, hr, hrs⟩ := hat i o (by rw [Array.getElem?_toList]; exact ho)
      obtain ⟨_, hrd⟩ := recStep_run hrs
      -- whoever is listed otherwise than in the text's order may change places with it
      have hother : ∀ j f, (rs.map (·.ev))[j]? = some f → listed.getD j false ≠ decide (j < i) → ∃ y s, rs[j]? = some s ∧ s.ev = f ∧ Pair ops o y r s ∧ s.ev.dst = y.dst := by
        intro j f hj hne
        rw [List.getElem?_map, Option.map_eq_some_iff] at hj
        obtain ⟨s, hs, hsf⟩ := hj
        have hjlt : j < ops.size := by rw [← hlen']; exact (List.getElem?_eq_some_iff.1 hs).1
        have hoj : ops[j]? = some ops[j] := Array.getElem?_eq_getElem hjlt
        obtain ⟨s', hs', hss⟩ := hat j ops[j] (by rw [Array.getElem?_toList]; exact hoj)
        rw [hs] at hs'
        cases hs'
        refine ⟨ops[j], s, hs, hsf, ?_, (recStep_run hss).2⟩
        rcases Nat.lt_trichotomy j i with hji | hji | hji
        · have hjf : listed.getD j false = false := by
            cases hv : listed.getD j false with
            | false => rfl
            | true => rw [hv] at hne; simp [hji] at hne
          refine (hP j i ops[j] o s r hji hoj ho hs hr (fun hc => ?_)).symm
          rw [hanc listed hcl i o ho hp j hc] at hjf
          cases hjf
        · subst hji
          rw [hni] at hne
          simp at hne
        · have hjt : listed.getD j false = true := by
            cases hv : listed.getD j false with
            | true => rfl
            | false =>
              have : ¬ j < i := by omega
              rw [hv] at hne; simp [this] at hne
          refine hP i j o ops[j] r s hji ho hoj hr hs (fun hc => ?_)
          rw [hanc listed hcl j ops[j] hoj (fun p hpp => hcl j ops[j] hjt hoj p hpp) i hc] at hni
          cases hni
      have hsame : recStep Γ ops.toList (sig (fun j => listed.getD j false) (rs.map (·.ev)) st ops.size) o = some r := by
        refine recStep_same hrs (by rw [sig_n, sig_n]) ?_ ?_
        · intro d hd v hv hvk
          rw [← sig_prefix (i := i) ops.size (by omega)] at hv
          refine sig_env (fun j f hj hne => ?_) ops.size hv
          obtain ⟨y, s, hs, rfl, hpr, hsd⟩ := hother j f hj hne
          exact ⟨fun hc => hpr.d3 d (hsd ▸ hc) hd, fun k hk => hpr.p1 k (hvk k hk)⟩
        · intro hmv k hk x hx hxk
          rw [← sig_prefix (i := i) ops.size (by omega)] at hx
          refine sig_mem (fun j f hj hne => ?_) ops.size hx
          obtain ⟨y, s, hs, rfl, hpr, hsd⟩ := hother j f hj hne
          refine ⟨?_, fun q hq => hpr.p2 q (hxk q hq)⟩
          cases ha : s.ev.at k with
          | none => rfl
          | some u => exact absurd hk (hpr.u2 hmv k (at_foot ha).1)
      obtain ⟨hstep, _⟩ := recStep_run hsame
      refine step_sound G hrel ho hstep (fun φ' a' w' hrel' => ih (listed.setIfInBounds i true) (φ := φ') (by simpa using hsz) ?_ ?_ ?_)
      · intro j y hj hy p hpp
        rw [getD_set listed i p false (by omega)]
        rw [getD_set listed i j false (by omega)] at hj
        by_cases hpi : p = i
        · rw [if_pos hpi]
        · rw [if_neg hpi]
          by_cases hji : j = i
          · subst hji
            rw [ho] at hy
            cases hy
            exact hp p hpp
          · rw [if_neg hji] at hj
            exact hcl j y hj hy p hpp
      · have : todo ops.size (listed.setIfInBounds i true) < todo ops.size listed := by
          unfold todo
          refine filter_lt (fun x hx => ?_) (x := i) (by simpa using hlt) ?_ ?_
          · rw [getD_set listed i x true (by omega)] at hx
            by_cases e : x = i
            · rw [if_pos e] at hx; cases hx
            · rw [if_neg e] at hx; exact hx
          · rw [getD_eq listed i true false (by omega), hni]; rfl
          · rw [getD_set listed i i true (by omega), if_pos rfl]; rfl
        omega
      · have hS : (fun j => (listed.setIfInBounds i true).getD j false) = fun x => (fun j => listed.getD j false) x || x == i := by
          funext x
          rw [getD_set listed i x false (by omega)]
          by_cases e : x = i
          · simp [e]
          · have : (x == i) = false := by simp [e]
            rw [if_neg e, this, Bool.or_false]
        rw [hS, sig_insert (e := r.ev) (by rw [List.getElem?_map, hr]; rfl) hni ?_ ops.size, if_pos hlt]
        · exact hrel'
        · intro j f hij hj hjt
          obtain ⟨y, s, hs, rfl, hpr, hsd⟩ := hother j f hj (by
            have : ¬ j < i := by omega
            rw [hjt]; simp [this])
          exact hpr.apart hrd hsd

theorem W.draw (G : Good P gl Γ) {id : Nat} {rs : List Rec} {R : Exit → St → Prop} (A : List (List Nat)) (hmix : P.follows .mixedOrders = true) (hrec : recs Γ ops.toList st ops.toList = some (rs, st')) (hok : drawOK ops A (rs.map Rec.foot) = true)
    (h : R .normal st') : W P gl w0 ext av (.region id ops true) st R := by
  intro φ a w hrel
  refine wp_region_any hmix (draw_any G hrec hok (fun φ' a' w' hr => ⟨st', φ', h, hr⟩) ops.size _ (φ := φ) (by simp) ?_ ?_ ?_)
  · intro i o hi
    exfalso
    by_cases hlt : i < ops.size <;> simp [Array.getD_eq_getD_getElem?, hlt] at hi
  · unfold todo
    exact Nat.le_trans (List.length_filter_le _ _) (by simp)
  · have : sig (fun j => (Array.replicate ops.size false).getD j false) (rs.map (·.ev)) st ops.size = st := by
      have : ∀ m, sig (fun j => (Array.replicate ops.size false).getD j false) (rs.map (·.ev)) st m = st := by
        intro m
        induction m with
        | zero => rfl
        | succ m ih =>
          rw [sig, ih]
          have : (Array.replicate ops.size false).getD m false = false := by
            by_cases hlt : m < ops.size <;> simp [Array.getD_eq_getD_getElem?, hlt]
          rw [this]
          split <;> simp
      exact this _
    rw [this]
    exact hrel.drawn _

end
end Go.Vm

/- The evaluation of told states by rewriting. -/
namespace Go.Vm
open Go
set_option linter.unusedVariables false

noncomputable def lookF : Nat → List (Nat × FSpec) → Option FSpec
  | _, [] => none
  | g, (i, s) :: l => if i = g then some s else lookF g l

noncomputable def ctx (P : Program) (gl : Nat → Option Row) (l : List (Nat × FSpec)) : Ctx := { ty := tyOf P 8, gl := gl, fn := fun g => lookF g l }

theorem good_of {P : Program} {gl : Nat → Option Row} (hro : ∀ g r, gl g = some r → r.ro = r) : ∀ {l : List (Nat × FSpec)}, (∀ p ∈ l, SoundFn P gl p.1 p.2.run) → Good P gl (ctx P gl l) := by
  intro l hl
  refine ⟨rfl, rfl, hro, ?_⟩
  intro g sp h
  have : ∀ {l : List (Nat × FSpec)}, lookF g l = some sp → (g, sp) ∈ l := by
    intro l
    induction l with
    | nil => intro h; cases h
    | cons p l ih =>
      obtain ⟨i, s⟩ := p
      intro h
      simp only [lookF] at h
      by_cases e : i = g
      · rw [if_pos e] at h; cases h; subst e; simp
      · rw [if_neg e] at h; exact List.mem_cons.2 (.inr (ih h))
  exact hl _ (this h)

theorem steps_nil {Γ : Ctx} {all : List Oper} {st : St} : steps Γ all st [] = some st := rfl

section
variable {Γ : Ctx} {all os : List Oper} {o : Oper} {e : Nat → Option V} {m : Nat → Option V} {n : Nat} {st1 : St} {args : List V} {res : Res} {r : Option St}

/-- an operation without a guard -/
theorem steps_op (hg : o.guard = none) (h1 : argsOf Γ e o.op = some args) (h2 : act Γ (restr (args.flatMap V.keys) m) (o.dst.getD 0) o.op args = some res) (h3 : St.after ⟨e, m, n⟩ o.dst res = some st1)
    (h : steps Γ all st1 os = r) : steps Γ all ⟨e, m, n⟩ (o :: os) = r := by
  simp only [steps, step, hg, runOp, h1, h2, h3]; exact h

/-- an operation whose guard says yes -/
theorem steps_yes {j : Nat} {x : Bool} (hg : o.guard = some (j, x)) (hx : guardB all ⟨e, m, n⟩ j x = some x) (h1 : argsOf Γ e o.op = some args)
    (h2 : act Γ (restr (args.flatMap V.keys) m) (o.dst.getD 0) o.op args = some res) (h3 : St.after ⟨e, m, n⟩ o.dst res = some st1) (h : steps Γ all st1 os = r) : steps Γ all ⟨e, m, n⟩ (o :: os) = r := by
  simp only [steps, step, hg, hx, if_true, runOp, h1, h2, h3]; exact h

/-- an operation whose guard says no -/
theorem steps_no {j d : Nat} {x y : Bool} (hg : o.guard = some (j, x)) (hx : guardB all ⟨e, m, n⟩ j x = some y) (hne : ¬ y = x) (hd : o.dst = some d) (hlt : d < n)
    (h : steps Γ all ⟨put d (.tup []) e, m, n⟩ os = r) : steps Γ all ⟨e, m, n⟩ (o :: os) = r := by
  have hd' : ∀ d, o.dst = some d → d < n := fun d' h' => by rw [hd] at h'; cases h'; exact hlt
  have hs : step Γ all ⟨e, m, n⟩ o = some ⟨put d (.tup []) e, m, n⟩ := by
    simp only [step, hg, hx, if_neg hne]
    rw [chk_ok hd']
    simp only [skipOp, hd]
  simp only [steps, hs]; exact h
end

/-! ### lookups -/

theorem put_at (d : Nat) (v : V) (e : Nat → Option V) (t : Nat) : put d v e t = if t = d then some v else e t := rfl
theorem purge_at (ks : List Nat) (e : Nat → Option V) (t : Nat) : purge ks e t = purge1 ks (e t) := by
  unfold purge purge1; cases e t <;> rfl
theorem purge1_val (ks : List Nat) (v : V) : purge1 ks (some v) = if v.keys.any (ks.contains ·) then none else some v := rfl
theorem purge1_none (ks : List Nat) : purge1 ks none = none := rfl

/-! ### the state behind an operation -/

section
variable {e m : Nat → Option V} {n d k : Nat} {v c : V}
theorem after_val (h : d < n) : St.after ⟨e, m, n⟩ (some d) { v := v } = some ⟨put d v e, m, n⟩ := by unfold St.after; exact chk_ok h
theorem after_none : St.after ⟨e, m, n⟩ none { v := v } = some ⟨e, m, n⟩ := by unfold St.after; exact chk_ok rfl
theorem after_newv (h : d < n) : St.after ⟨e, m, n⟩ (some d) { v := v, new := some c, pg := [d] } = some ⟨put d v (purge [d] e), put d c (purge [d] m), n⟩ := by unfold St.after; exact chk_ok h
theorem updM_one (k : Nat) (v : V) (m : Nat → Option V) : updM [(k, v)] m = put k v m := by
  funext j
  simp only [updM, lookN, put]
  by_cases e : k = j
  · subst e; simp
  · have e' : ¬ j = k := fun x => e x.symm
    simp [e, e']
theorem after_updn : St.after ⟨e, m, n⟩ none { v := v, upd := [(k, c)] } = some ⟨e, put k c m, n⟩ := by
  unfold St.after
  rw [show updM [(k, c)] (purgeIf [] m) = put k c m from updM_one k c m]
  exact chk_ok rfl
theorem after_updv (h : d < n) : St.after ⟨e, m, n⟩ (some d) { v := v, upd := [(k, c)] } = some ⟨put d v e, put k c m, n⟩ := by
  unfold St.after
  rw [show updM [(k, c)] (purgeIf [] m) = put k c m from updM_one k c m]
  exact chk_ok h
theorem after_updp (h : d < n) : St.after ⟨e, m, n⟩ (some d) { v := v, upd := [(k, c)], pg := [k] } = some ⟨put d v (purge [k] e), put k c (purge [k] m), n⟩ := by
  unfold St.after
  rw [show updM [(k, c)] (purgeIf [k] m) = put k c (purge [k] m) from updM_one k c _]
  exact chk_ok h
end

theorem st0_eq (n : Nat) (ins : List V) : st0 n ins = ⟨fun t => if t < ins.length then (ins[t]?).map (argV t) else none, mem0 ins, n⟩ := rfl
theorem chkI_ok {n : Int} (h : -9223372036854775808 ≤ n ∧ n ≤ 9223372036854775807) : chkI n = some (.i n) := by
  unfold chkI; exact chk_ok (inRB_iff.2 h)

theorem chk_true {α : Type} (x : Option α) : chk True x = x := chk_ok trivial
theorem chk_false {α : Type} (x : Option α) : chk False x = none := by unfold chk; exact if_neg (fun h => h)

attribute [go_sem] argsOf Op.operands mapO opnd act args1 args2 pure1 put_at lookN constV okU ctx
  argV argC mem0 aConv aBin isSh amount shU binU binI aUn castB_rfl castL_rfl purge_at purge1_val purge1_none V.keys V.keys1 chkI_ok chk_ok chk_true

theorem restr_at {ks : List Nat} {m : Nat → Option V} {k : Nat} (h : ks.contains k = true) : restr ks m k = m k := by
  unfold restr; exact chk_ok h

end Go.Vm

/- What a function answers, read off its last state. -/
namespace Go.Vm
open Go
set_option linter.unusedVariables false

section
variable {Γ : Ctx} {fn : Func} {ins outs : List V} {ret : V} {s : St} {ra rb : ResultVar} {v v' w w' r1 r2 : V}

theorem newOf_own {M : Nat → Option V} (h2 : normV M v = some v') (h3 : LeV v' ret) : newOf1 ret = none ∨ noOwn v = true := by
  cases v with
  | gr k len =>
    left
    simp only [normV] at h2
    split at h2
    · have := (chk_some h2).2
      cases this
      rcases h3 with rfl | ⟨e, _⟩ | ⟨wd, xs, e, rfl⟩
      · rfl
      · cases e
      · rfl
    · cases h2
  | os k f o i len =>
    left
    simp only [normV] at h2
    split at h2
    · have := (chk_some h2).2
      cases this
      rcases h3 with rfl | ⟨e, _⟩ | ⟨wd, xs, e, rfl⟩
      · rfl
      · cases e
      · rfl
    · cases h2
  | _ => exact .inr rfl

theorem answers0 (hr : fn.results = #[]) (ho : mapO s.mem (refKeys 0 ins) = some outs) (hp : outs.all plainC = true) : Answers Γ fn ins (.tup []) outs s :=
  ⟨⟨[], [], [], by rw [hr]; rfl, rfl, trivial, rfl, .inl rfl, by simp [newCount], .inr rfl⟩, ho, hp⟩

theorem answers1 (hr : fn.results = #[ra]) (h1 : resV Γ s ra = some v) (h2 : normV s.mem v = some v') (h3 : LeV v' ret) (ho : mapO s.mem (refKeys 0 ins) = some outs) (hp : outs.all plainC = true) : Answers Γ fn ins ret outs s := by
  have hf := form_no (LeV_form h3 (normV_form h2))
  have e1 : newOf ret = newOf1 ret := by
    cases ret with
    | tup xs => exact absurd rfl (hf.1 xs)
    | _ => rfl
  have e2 : newCount ret ≤ 1 := by
    cases ret with
    | tup xs => exact absurd rfl (hf.1 xs)
    | _ => exact Nat.le_refl _
  refine ⟨⟨[v], [v'], [ret], by rw [hr]; simp [mapO, h1], by simp [mapO, h2], ⟨h3, trivial⟩, rfl, ?_, e2, .inl rfl⟩, ho, hp⟩
  rw [e1]
  rcases newOf_own h2 h3 with h | h
  · exact .inl h
  · exact .inr (by simp [h])

/-- two results, none of them new -/
theorem answers2 (hr : fn.results = #[ra, rb]) (h1 : resV Γ s ra = some v) (h2 : normV s.mem v = some v') (h3 : LeV v' r1) (k1 : resV Γ s rb = some w) (k2 : normV s.mem w = some w') (k3 : LeV w' r2)
    (hn : newOf1 r1 = none ∧ newOf1 r2 = none ∧ noSt r1 = true ∧ noSt r2 = true) (ho : mapO s.mem (refKeys 0 ins) = some outs) (hp : outs.all plainC = true) : Answers Γ fn ins (.tup [r1, r2]) outs s := by
  have e : [r1, r2].filterMap newOf1 = [] := by simp [hn.1, hn.2.1]
  refine ⟨⟨[v, w], [v', w'], [r1, r2], by rw [hr]; simp [mapO, h1, k1], by simp [mapO, h2, k2], ⟨h3, k3, trivial⟩, rfl, .inl ?_, ?_, .inr (by simp [hn.2.2])⟩, ho, hp⟩
  · simp only [newOf, e]; rfl
  · simp only [newCount, e]; simp

theorem leV_refl {x : V} : LeV x x := .inl rfl

end
end Go.Vm

/- Regions, an operation at a time. -/
namespace Go.Vm
open Go
set_option linter.unusedVariables false

/-- the operations os, from st on, end where R holds -/
structure SW (Γ : Ctx) (all : List Oper) (st : St) (os : List Oper) (R : St → Prop) : Prop where
  out : ∃ st', steps Γ all st os = some st' ∧ R st'

section
variable {P : Program} {gl : Nat → Option Row} {w0 : World} {ext : Nat → Nat → Prop} {av : Nat → Prop} {Γ : Ctx} {all os : List Oper} {o : Oper} {st st1 : St} {R : St → Prop} {Q : Exit → St → Prop} {x y : Code} 

theorem W.regS (G : Good P gl Γ) {id : Nat} {ops : Array Oper} (h : SW Γ ops.toList st ops.toList (Q .normal)) : W P gl w0 ext av (.region id ops false) st Q := by
  obtain ⟨st', h1, h2⟩ := h.out
  exact W.region G h1 h2

theorem SW.nil (h : R st) : SW Γ all st [] R := ⟨st, rfl, h⟩
theorem SW.op (hg : o.guard = none) (h : runOp Γ st o = some st1) (k : SW Γ all st1 os R) : SW Γ all st (o :: os) R := by
  obtain ⟨st', h1, h2⟩ := k.out
  refine ⟨st', ?_, h2⟩
  simp only [steps, step, hg, h]; exact h1
/-- an operation with a guard: it is run or it is not -/
theorem SW.guard {j : Nat} {want b : Bool} (hg : o.guard = some (j, want)) (hx : guardB all st j want = some b)
    (k1 : b = want → ∃ st1, runOp Γ st o = some st1 ∧ SW Γ all st1 os R) (k2 : b = !want → ∃ d, o.dst = some d ∧ d < st.n ∧ SW Γ all { st with env := put d (.tup []) st.env } os R) : SW Γ all st (o :: os) R := by
  by_cases hb : b = want
  · obtain ⟨s1, h1, h2⟩ := k1 hb
    obtain ⟨st', h3, h4⟩ := h2.out
    refine ⟨st', ?_, h4⟩
    simp only [steps, step, hg, hx, if_pos hb, h1]; exact h3
  · obtain ⟨d, h1, h2, h3⟩ := k2 (by cases b <;> cases want <;> simp_all)
    obtain ⟨st', h4, h5⟩ := h3.out
    refine ⟨st', ?_, h5⟩
    have hs : step Γ all st o = some { st with env := put d (.tup []) st.env } := by
      simp only [step, hg, hx, if_neg hb]
      rw [chk_ok (by intro d' h'; rw [h1] at h'; cases h'; exact h2)]
      simp only [skipOp, h1]
    simp only [steps, hs]; exact h4

/-- a drawn region: what the operations did so far, and the ones ahead -/
structure DW (Γ : Ctx) (ops : Array Oper) (A : List (List Nat)) (fs : List Foot) (st : St) (os : List Oper) (R : St → Prop) : Prop where
  out : ∃ rs st', recs Γ ops.toList st os = some (rs, st') ∧ drawOK ops A (fs.reverse ++ rs.map Rec.foot) = true ∧ R st'

theorem W.drawS (G : Good P gl Γ) {id : Nat} {ops : Array Oper} (A : List (List Nat)) (hmix : P.follows .mixedOrders = true) (h : DW Γ ops A [] st ops.toList (Q .normal)) : W P gl w0 ext av (.region id ops true) st Q := by
  obtain ⟨rs, st', h1, h2, h3⟩ := h.out
  exact W.draw G A hmix h1 h2 h3

variable {ops : Array Oper} {A : List (List Nat)} {fs : List Foot}

theorem DW.nil (hok : drawOK ops A fs.reverse = true) (h : R st) : DW Γ ops A fs st [] R := ⟨[], st, rfl, by simpa using hok, h⟩
theorem DW.op {r : Rec} {f : Foot} {st1 : St} (hg : o.guard = none) (h : recOp Γ st o = some r) (hf : r.foot = f) (hs : r.ev.app st = st1) (k : DW Γ ops A (f :: fs) st1 os R) : DW Γ ops A fs st (o :: os) R := by
  subst hs hf
  obtain ⟨rs, st', h1, h2, h3⟩ := k.out
  refine ⟨r :: rs, st', ?_, by simpa using h2, h3⟩
  simp only [recs, recStep, hg, h, h1]
theorem DW.guard {j : Nat} {want b : Bool} (hg : o.guard = some (j, want)) (hx : guardB ops.toList st j want = some b)
    (k1 : b = want → ∃ r f st1, recOp Γ st o = some r ∧ r.foot = f ∧ r.ev.app st = st1 ∧ DW Γ ops A (f :: fs) st1 os R)
    (k2 : b = !want → ∃ d, o.dst = some d ∧ d < st.n ∧ DW Γ ops A (⟨[], [], [], [], []⟩ :: fs) { st with env := put d (.tup []) st.env } os R) : DW Γ ops A fs st (o :: os) R := by
  by_cases hb : b = want
  · obtain ⟨r, f, s1, h0, hf, hs, h2⟩ := k1 hb
    subst hs hf
    obtain ⟨rs, st', h1, h3, h4⟩ := h2.out
    refine ⟨r :: rs, st', ?_, by simpa using h3, h4⟩
    simp only [recs, recStep, hg, hx, if_pos hb, h0, h1]
  · obtain ⟨d, h1, h2, h3⟩ := k2 (by cases b <;> cases want <;> simp_all)
    obtain ⟨rs, st', h4, h5, h6⟩ := h3.out
    refine ⟨{ ev := { dst := o.dst, res := { v := .tup [] } }, rk := [], ck := [] } :: rs, st', ?_, ?_, h6⟩
    · simp only [recs, recStep, hg, hx, if_neg hb]
      rw [chk_ok (by simp [dstOK, h1, h2])]
      have e : ({ dst := o.dst, res := { v := .tup [] } } : Ev).app st = { st with env := put d (.tup []) st.env } := by simp only [Ev.app, h1]; rfl
      simp only [e, h4]
    · have e : ({ ev := { dst := o.dst, res := { v := .tup [] } }, rk := [], ck := [] } : Rec).foot = ⟨[], [], [], [], []⟩ := by simp [Rec.foot, h1, V.keys, V.keys1]
      simp only [List.map_cons, e]
      simpa using h5

/-- what a call comes to -/
noncomputable def callRes (rs : Bool) (d : Nat) (args : List V) (ret : V) (outs : List V) : Res :=
  { v := outV d ret, upd := (args.filterMap (refKey rs)).zip outs, new := newOf ret, pg := match newOf ret with | some _ => [d] | none => [] }

structure CallOK (rs : Bool) (args : List V) (ret : V) (outs : List V) : Prop where
  nodup : nodupN (args.filterMap (refKey rs)) = true
  apart : (args.filterMap (refKey rs)).all (fun k => !(args.filterMap (roKey rs)).contains k) = true
  outl : outs.length = (args.filterMap (refKey rs)).length
  old : args.filterMap (roKey rs) = [] ∨ ret.old = false
  one : Nat.ble (newCount ret) 1 = true
  ret : retOK ret = true
  plain : outs.all plainC = true

section
variable {g : Nat} {as : Array Operand} {ts : Array TypeId} {ty : TypeId} {pos : String} {af : Array Edge} {gd : Option (Nat × Bool)} {dst : Option Nat} {sp : FSpec} {args ins outs : List V} {ret : V} {res : Res} {e m : Nat → Option V} {n : Nat} {opq : Operand}

theorem argsOf_call (hq : opnd Γ e opq = some (.clo g [])) (h1 : mapO (opnd Γ e) as.toList = some args) : argsOf Γ e (.call { callee := .value opq, args := as, argTypes := ts }) = some (.clo g [] :: args) := by
  have e1 : (Op.call { callee := .value opq, args := as, argTypes := ts }).operands.toList = opq :: as.toList := by simp [Op.operands, Call.operands]
  simp only [argsOf, e1, mapO, hq, h1]

theorem act_call (hf : Γ.fn g = some sp) (h2 : mapO (inV sp.refSl (restr (args.flatMap V.keys) m)) args = some ins) (h3 : sp.run ins = some (ret, outs)) (h4 : CallOK sp.refSl args ret outs) (h5 : callRes sp.refSl (dst.getD 0) args ret outs = res) :
    act Γ (restr ((V.clo g [] :: args).flatMap V.keys) m) (dst.getD 0) (.call { callee := .value opq, args := as, argTypes := ts }) (.clo g [] :: args) = some res := by
  subst h5
  have e1 : (V.clo g [] :: args).flatMap V.keys = args.flatMap V.keys := by simp [V.keys]
  rw [e1]
  simp only [act, aCall, hf, List.append_nil, h2, h3]
  rw [chk_ok ⟨h4.nodup, h4.apart, h4.outl, h4.old, Nat.le_of_ble_eq_true h4.one, h4.ret, h4.plain⟩]
  rfl

theorem runOp_call (h1 : mapO (opnd Γ e) as.toList = some args) (hf : Γ.fn g = some sp) (h2 : mapO (inV sp.refSl (restr (args.flatMap V.keys) m)) args = some ins) (h3 : sp.run ins = some (ret, outs)) (h4 : CallOK sp.refSl args ret outs)
    (h5 : callRes sp.refSl (dst.getD 0) args ret outs = res) (h6 : St.after ⟨e, m, n⟩ dst res = some st1) : runOp Γ ⟨e, m, n⟩ ⟨dst, .call { callee := .value (.func g), args := as, argTypes := ts }, ty, pos, af, gd⟩ = some st1 := by
  unfold runOp
  dsimp only
  rw [argsOf_call (g := g) rfl h1]
  dsimp only
  rw [act_call hf h2 h3 h4 h5]
  exact h6

theorem SW.call (h1 : mapO (opnd Γ e) as.toList = some args) (hf : Γ.fn g = some sp) (h2 : mapO (inV sp.refSl (restr (args.flatMap V.keys) m)) args = some ins) (h3 : sp.run ins = some (ret, outs)) (h4 : CallOK sp.refSl args ret outs)
    (h5 : callRes sp.refSl (dst.getD 0) args ret outs = res) (h6 : St.after ⟨e, m, n⟩ dst res = some st1) (k : SW Γ all st1 os R) : SW Γ all ⟨e, m, n⟩ (⟨dst, .call { callee := .value (.func g), args := as, argTypes := ts }, ty, pos, af, none⟩ :: os) R :=
  SW.op rfl (runOp_call h1 hf h2 h3 h4 h5 h6) k

theorem recOp_call {ck : List Nat} {f : Foot} (h1 : mapO (opnd Γ e) as.toList = some args) (hf : Γ.fn g = some sp) (h2 : mapO (inV sp.refSl (restr (args.flatMap V.keys) m)) args = some ins) (h3 : sp.run ins = some (ret, outs)) (h4 : CallOK sp.refSl args ret outs)
    (h5 : callRes sp.refSl (dst.getD 0) args ret outs = res) (h6 : keysAt m (args.flatMap V.keys) = some ck) (h7 : dstOK n dst res = true) :
    recOp Γ ⟨e, m, n⟩ ⟨dst, .call { callee := .value (.func g), args := as, argTypes := ts }, ty, pos, af, gd⟩ = some { ev := { dst := dst, res := res }, rk := args.flatMap V.keys, ck := ck } := by
  unfold recOp
  dsimp only
  rw [argsOf_call (g := g) rfl h1]
  dsimp only
  rw [act_call hf h2 h3 h4 h5]
  have e1 : (V.clo g [] :: args).flatMap V.keys = args.flatMap V.keys := by simp [V.keys]
  rw [e1]
  dsimp only
  rw [kO_else (by rfl) h6]
  dsimp only
  rw [chk_ok h7]

theorem DW.call {ck : List Nat} {f : Foot} (h1 : mapO (opnd Γ e) as.toList = some args) (hf : Γ.fn g = some sp) (h2 : mapO (inV sp.refSl (restr (args.flatMap V.keys) m)) args = some ins) (h3 : sp.run ins = some (ret, outs)) (h4 : CallOK sp.refSl args ret outs)
    (h5 : callRes sp.refSl (dst.getD 0) args ret outs = res) (h6 : keysAt m (args.flatMap V.keys) = some ck) (h7 : dstOK n dst res = true) (h8 : ({ ev := { dst := dst, res := res }, rk := args.flatMap V.keys, ck := ck } : Rec).foot = f)
    (h9 : Ev.app { dst := dst, res := res } ⟨e, m, n⟩ = st1) (k : DW Γ ops A (f :: fs) st1 os R) : DW Γ ops A fs ⟨e, m, n⟩ (⟨dst, .call { callee := .value (.func g), args := as, argTypes := ts }, ty, pos, af, none⟩ :: os) R :=
  DW.op rfl (recOp_call (f := f) h1 hf h2 h3 h4 h5 h6 h7) h8 h9 k
end

/-- two ways come together -/
theorem W.join {ι : Type} (M : ι → St) (h1 : W P gl w0 ext av x st (thenQ (fun s => ∃ i, (M i).Le s) Q)) (h2 : ∀ i, W P gl w0 ext av y (M i) Q) : W P gl w0 ext av (.seq x y) st Q := by
  refine W.seq (W.mono h1 ?_)
  intro e s h
  cases e with
  | normal => obtain ⟨i, hi⟩ := h; exact W.weaken (h2 i) hi
  | _ => exact h
end

section
variable {P : Program} {gl : Nat → Option Row} {w0 : World} {ext : Nat → Nat → Prop} {av : Nat → Prop} {Γ : Ctx} {st : St} {Q : Exit → St → Prop} {x y : Code} {q : Operand} {b : Bool}
theorem W.condG (G : Good P gl Γ) (hq : opnd Γ st.env q = some (.b b)) (ht : b = true → W P gl w0 ext av x st Q) (hf : b = false → W P gl w0 ext av y st Q) : W P gl w0 ext av (.cond q x y) st Q :=
  W.cond (Γ := Γ) G.glob hq ht hf
end

/-! ### lookups in told states -/

theorem newM_none (d : Nat) (m : Nat → Option V) : newM d none m = m := rfl
theorem newM_some (d : Nat) (c : V) (m : Nat → Option V) : newM d (some c) m = put d c m := rfl
theorem purgeIf_nil (e : Nat → Option V) : purgeIf [] e = e := rfl
theorem purgeIf_cons (k : Nat) (ks : List Nat) (e : Nat → Option V) : purgeIf (k :: ks) e = purge (k :: ks) e := rfl
theorem updM_nil (m : Nat → Option V) : updM [] m = m := rfl
theorem updM_cons (k : Nat) (v : V) (us : List (Nat × V)) (m : Nat → Option V) : updM ((k, v) :: us) m = put k v (updM us m) := by
  funext j
  simp only [updM, lookN, put]
  by_cases e : k = j
  · subst e; simp
  · have e' : ¬ j = k := fun x => e x.symm
    simp [e, e']

/-- told by lists -/
noncomputable def sL (E M : List (Nat × V)) (n : Nat) : St := ⟨fun t => lookN t E, fun k => lookN k M, n⟩

theorem lookN_le {f : Nat → Option V} : ∀ {E : List (Nat × V)}, (∀ p ∈ E, f p.1 = some p.2) → ∀ t v, lookN t E = some v → f t = some v := by
  intro E h t v hv
  exact h (t, v) (lookN_mem hv)

theorem thenQ_normal {next : St → Prop} {Q : Exit → St → Prop} {s : St} (h : next s) : thenQ next Q .normal s := h
theorem thenQ_ret {next : St → Prop} {Q : Exit → St → Prop} {s : St} (h : Q .ret s) : thenQ next Q .ret s := h
theorem thenQ_exit {next : St → Prop} {Q : Exit → St → Prop} {s : St} {id : Nat} (h : Q (.exit id) s) : thenQ next Q (.exit id) s := h
theorem inBlockQ_normal {Q : Exit → St → Prop} {s : St} {id : Nat} (h : Q .normal s) : inBlockQ id Q .normal s := h
theorem inBlockQ_ret {Q : Exit → St → Prop} {s : St} {id : Nat} (h : Q .ret s) : inBlockQ id Q .ret s := h
theorem inBlockQ_exit {Q : Exit → St → Prop} {s : St} {id : Nat} (h : Q .normal s) : inBlockQ id Q (.exit id) s := by simp only [inBlockQ, if_true]; exact h
theorem inBlockQ_other {Q : Exit → St → Prop} {s : St} {id id' : Nat} (hne : id' ≠ id) (h : Q (.exit id') s) : inBlockQ id Q (.exit id') s := by simp only [inBlockQ, if_neg hne]; exact h

/-- what a list of tells says of f -/
def okE (f : Nat → Option V) : List (Nat × V) → Prop
  | [] => True
  | p :: E => f p.1 = some p.2 ∧ okE f E

theorem okE_mem {f : Nat → Option V} : ∀ {E : List (Nat × V)}, okE f E → ∀ p ∈ E, f p.1 = some p.2
  | p :: E, h, q, hq => by
    rcases List.mem_cons.1 hq with rfl | hq
    · exact h.1
    · exact okE_mem h.2 q hq

theorem sL_le {E M : List (Nat × V)} {n : Nat} {s : St} (hn : n = s.n) (hE : okE s.env E) (hM : okE s.mem M) : (sL E M n).Le s :=
  ⟨hn, fun t v h => lookN_le (okE_mem hE) t v h, fun t v h => lookN_le (okE_mem hM) t v h⟩
theorem Le_refl (s : St) : s.Le s := ⟨rfl, fun _ _ h => h, fun _ _ h => h⟩

/-- f again and again, with the round's number -/
def itN {α : Type} (f : Nat → α → α) : Nat → α → α
  | 0, s => s
  | n + 1, s => f n (itN f n s)

/-- what each round keeps -/
theorem itN_inv {α : Type} {f : Nat → α → α} {p : α → Prop} (h : ∀ i s, p s → p (f i s)) : ∀ n {s}, p s → p (itN f n s)
  | 0, _, hs => hs
  | n + 1, _, hs => h n _ (itN_inv h n hs)

theorem itN_congr {α : Type} {f g : Nat → α → α} : ∀ n {s}, (∀ i s, i < n → f i s = g i s) → itN f n s = itN g n s
  | 0, _, _ => rfl
  | n + 1, s, h => by
    show f n (itN f n s) = g n (itN g n s)
    rw [itN_congr n (fun i s hi => h i s (by omega)), h n _ (by omega)]

@[go_sem] theorem Row.sub_u {w : Nat} (xs : List (BitVec w)) (j n : Nat) : Row.sub (.u w xs) j n = if j = 0 ∧ n = xs.length then .u w xs else .u w (subL xs j n) := by
  by_cases h : j = 0 ∧ n = xs.length
  · rw [if_pos h]; exact if_pos h
  · rw [if_neg h]; exact if_neg h
@[go_sem] theorem subI_u {w : Nat} (xs : List (BitVec w)) (j n : Nat) : (if j = 0 ∧ n = xs.length then Row.u w xs else Row.u w (subL xs j n)) = Row.u w (subL xs j n) := by
  split
  · rename_i h
    obtain ⟨rfl, rfl⟩ := h
    simp [subL]
  · rfl
@[go_sem] theorem subJ_u {w : Nat} (xs : List (BitVec w)) (n : Nat) : (if n = xs.length then Row.u w xs else Row.u w (subL xs 0 n)) = Row.u w (subL xs 0 n) := by
  split
  · rename_i h
    subst h
    simp [subL]
  · rfl
@[go_sem] theorem subK_u {w : Nat} (xs : List (BitVec w)) (j n : Nat) : (if j = 0 then Row.u w xs else Row.u w (subL xs j xs.length)) = Row.u w (subL xs j xs.length) := by
  split
  · rename_i h
    subst h
    simp [subL]
  · rfl
@[go_sem] theorem Row.sub_i (xs : List Int) (j n : Nat) : Row.sub (.i xs) j n = if j = 0 ∧ n = xs.length then .i xs else .i (subL xs j n) := by
  by_cases h : j = 0 ∧ n = xs.length
  · rw [if_pos h]; exact if_pos h
  · rw [if_neg h]; exact if_neg h
@[go_sem] theorem subI_i (xs : List Int) (j n : Nat) : (if j = 0 ∧ n = xs.length then Row.i xs else Row.i (subL xs j n)) = Row.i (subL xs j n) := by
  split
  · rename_i h
    obtain ⟨rfl, rfl⟩ := h
    simp [subL]
  · rfl
@[go_sem] theorem subJ_i (xs : List Int) (n : Nat) : (if n = xs.length then Row.i xs else Row.i (subL xs 0 n)) = Row.i (subL xs 0 n) := by
  split
  · rename_i h
    subst h
    simp [subL]
  · rfl
@[go_sem] theorem subK_i (xs : List Int) (j n : Nat) : (if j = 0 then Row.i xs else Row.i (subL xs j xs.length)) = Row.i (subL xs j xs.length) := by
  split
  · rename_i h
    subst h
    simp [subL]
  · rfl
@[go_sem] theorem Row.sub_s (xs : List Bytes) (j n : Nat) : Row.sub (.s xs) j n = if j = 0 ∧ n = xs.length then .s xs else .s (subL xs j n) := by
  by_cases h : j = 0 ∧ n = xs.length
  · rw [if_pos h]; exact if_pos h
  · rw [if_neg h]; exact if_neg h
@[go_sem] theorem subI_s (xs : List Bytes) (j n : Nat) : (if j = 0 ∧ n = xs.length then Row.s xs else Row.s (subL xs j n)) = Row.s (subL xs j n) := by
  split
  · rename_i h
    obtain ⟨rfl, rfl⟩ := h
    simp [subL]
  · rfl
@[go_sem] theorem subJ_s (xs : List Bytes) (n : Nat) : (if n = xs.length then Row.s xs else Row.s (subL xs 0 n)) = Row.s (subL xs 0 n) := by
  split
  · rename_i h
    subst h
    simp [subL]
  · rfl
@[go_sem] theorem subK_s (xs : List Bytes) (j n : Nat) : (if j = 0 then Row.s xs else Row.s (subL xs j xs.length)) = Row.s (subL xs j xs.length) := by
  split
  · rename_i h
    subst h
    simp [subL]
  · rfl
@[go_sem] theorem Row.sub_b (f : Bool) (xs : List Bytes) (j n : Nat) : Row.sub (.b f xs) j n = if j = 0 ∧ n = xs.length then .b f xs else .b f (subL xs j n) := by
  by_cases h : j = 0 ∧ n = xs.length
  · rw [if_pos h]; exact if_pos h
  · rw [if_neg h]; exact if_neg h
@[go_sem] theorem subI_b (f : Bool) (xs : List Bytes) (j n : Nat) : (if j = 0 ∧ n = xs.length then Row.b f xs else Row.b f (subL xs j n)) = Row.b f (subL xs j n) := by
  split
  · rename_i h
    obtain ⟨rfl, rfl⟩ := h
    simp [subL]
  · rfl
@[go_sem] theorem subJ_b (f : Bool) (xs : List Bytes) (n : Nat) : (if n = xs.length then Row.b f xs else Row.b f (subL xs 0 n)) = Row.b f (subL xs 0 n) := by
  split
  · rename_i h
    subst h
    simp [subL]
  · rfl
@[go_sem] theorem subK_b (f : Bool) (xs : List Bytes) (j n : Nat) : (if j = 0 then Row.b f xs else Row.b f (subL xs j xs.length)) = Row.b f (subL xs j xs.length) := by
  split
  · rename_i h
    subst h
    simp [subL]
  · rfl
@[go_sem] theorem Row.sub_a (xs : List (Int × Int × Bytes)) (j n : Nat) : Row.sub (.a xs) j n = if j = 0 ∧ n = xs.length then .a xs else .a (subL xs j n) := by
  by_cases h : j = 0 ∧ n = xs.length
  · rw [if_pos h]; exact if_pos h
  · rw [if_neg h]; exact if_neg h
@[go_sem] theorem subI_a (xs : List (Int × Int × Bytes)) (j n : Nat) : (if j = 0 ∧ n = xs.length then Row.a xs else Row.a (subL xs j n)) = Row.a (subL xs j n) := by
  split
  · rename_i h
    obtain ⟨rfl, rfl⟩ := h
    simp [subL]
  · rfl
@[go_sem] theorem subJ_a (xs : List (Int × Int × Bytes)) (n : Nat) : (if n = xs.length then Row.a xs else Row.a (subL xs 0 n)) = Row.a (subL xs 0 n) := by
  split
  · rename_i h
    subst h
    simp [subL]
  · rfl
@[go_sem] theorem subK_a (xs : List (Int × Int × Bytes)) (j n : Nat) : (if j = 0 then Row.a xs else Row.a (subL xs j xs.length)) = Row.a (subL xs j xs.length) := by
  split
  · rename_i h
    subst h
    simp [subL]
  · rfl
@[go_sem] theorem subL_len {α : Type} (xs : List α) (j n : Nat) (h : j + n ≤ xs.length) : (subL xs j n).length = n := by simp [subL]; omega
attribute [go_sem] Row.len Row.esz Row.get Row.set Row.app Row.splice rdAt rowOf rowOf' aIdxAddr aIdx aLen aAppend aCopy aSlice roomV bnd bndB aFieldAddr aField aBuild aBuildSlice putParts putFields inOrder bits? int? str? Ty.size Ty.sizes Ty.flat Ty.root Ty.zero
  Ty.zero1 Ty.row0 Ty.rowZ subV putSub rd wr fits fitF offs actBuiltin aMinMax isNilCk V.isFlat V.len1 V.vlen sumL isNum okRB okU aS2a
attribute [go_sem] sL lookF inV callRes outV outV1 newOf newOf1 refKey roKey plain1 plainC runOp recOp St.after newM_none newM_some purgeIf_nil purgeIf_cons updM_nil updM_cons keysAt dstOK

end Go.Vm

/- Keys may be swapped; loops over told states, once more. -/
namespace Go.Vm
open Go
set_option linter.unusedVariables false

def swk (a b k : Nat) : Nat := if k = a then b else if k = b then a else k
theorem swk_swk (a b k : Nat) : swk a b (swk a b k) = k := by
  unfold swk
  by_cases h1 : k = a <;> by_cases h2 : k = b <;> by_cases h3 : b = a <;> simp_all
theorem swk_lt {a b k : Nat} (ha : a < 1000) (hb : b < 1000) : (swk a b k < 1000 ↔ k < 1000) := by
  unfold swk
  by_cases h1 : k = a <;> by_cases h2 : k = b <;> simp_all
theorem swk_ge {a b k : Nat} (ha : a < 1000) (hb : b < 1000) (h : 1000 ≤ k) : swk a b k = k := by
  unfold swk
  rw [if_neg (by omega), if_neg (by omega)]

noncomputable def ren1 (x y : Nat) : V → V
  | .p k f o j => .p (swk x y k) f o j
  | .os k f o j len => .os (swk x y k) f o j len
  | .gr k len => .gr (swk x y k) len
  | v => v
noncomputable def ren (x y : Nat) : V → V
  | .st fs => .st (fs.map (ren1 x y))
  | .tup xs => .tup (xs.map (ren1 x y))
  | .clo g caps => .clo g (caps.map (ren1 x y))
  | v => ren1 x y v

noncomputable def St.swap (a b : Nat) (s : St) : St := { env := fun t => (s.env t).map (ren a b), mem := fun k => (s.mem (swk a b k)).map (ren a b), n := s.n }

section
variable {P : Program} {gl : Nat → Option Row} {w0 : World} {ext : Nat → Nat → Prop} {av : Nat → Prop} {φ : Nat → Option Nat} {st st' : St} {a : Act} {w : World} {x y : Nat}

theorem FRel_ren {c c' : Cx} (hφ : ∀ k, c'.φ (swk x y k) = c.φ k) (hN : c'.N = c.N) (hb : c'.base = c.base) {v : V} {cs : List Value} (h : FRel c w v cs) : FRel c' w (ren1 x y v) cs := by
  have hfr : ∀ f, c'.fr f = c.fr f := by intro f; unfold Cx.fr; rw [hN, hb]
  cases v with
  | agg n r => cases r <;> exact h
  | sl f r =>
    obtain ⟨v, h1, h2⟩ := h
    refine ⟨v, h1, ?_⟩
    obtain ⟨a, len, cap, e1, e2, e3, e4, e5, e6⟩ := h2
    refine ⟨a, len, cap, e1, e2, e3, e4, e5, e6.imp id (fun ⟨blk, off, e7, e8⟩ => ⟨blk, off, e7, ?_⟩)⟩
    exact rowAt_cx (fun b _ hb => by rw [hfr]; exact hb) (fun g b _ hb => by rw [hfr]; exact hb) e8
  | rp r i =>
    obtain ⟨blk, off, e7, e8⟩ := h
    exact ⟨blk, off, e7, rowAt_cx (fun b _ hb => by rw [hfr]; exact hb) (fun g b _ hb => by rw [hfr]; exact hb) e8⟩
  | p k f o i => obtain ⟨b, h1, h2⟩ := h; exact ⟨b, (hφ k).trans h1, h2⟩
  | os k f o i len => obtain ⟨b, cap, h1, h2⟩ := h; exact ⟨b, cap, (hφ k).trans h1, h2⟩
  | gr k len =>
    obtain ⟨a, cap, h1, h2, h3⟩ := h
    exact ⟨a, cap, h1, h2, h3.imp id (fun ⟨b, cur, e, fr, h4, h5⟩ => ⟨b, cur, e, fr, (hφ k).trans h4, h5⟩)⟩
  | _ => exact h

theorem All2_map {α β γ : Type} {R : α → β → Prop} {S : γ → β → Prop} {f : α → γ} (h : ∀ a b, R a b → S (f a) b) : ∀ {as : List α} {bs : List β}, All2 R as bs → All2 S (as.map f) bs
  | [], [], _ => trivial
  | _ :: _, _ :: _, hh => ⟨h _ _ hh.1, All2_map h hh.2⟩
  | [], _ :: _, hh => hh.elim
  | _ :: _, [], hh => hh.elim

theorem ren1_agg {v : V} {n : Nat} {r : Row} (h : ren1 x y v = .agg n r) : v = .agg n r := by
  cases v <;> simp [ren1] at h ⊢ <;> exact h

theorem VRel_ren {c c' : Cx} (hφ : ∀ k, c'.φ (swk x y k) = c.φ k) (hN : c'.N = c.N) (hb : c'.base = c.base) {v : V} {u : Value} (h : VRel c w v u) : VRel c' w (ren x y v) u := by
  have F : ∀ {v : V} {cs : List Value}, FRel c w v cs → FRel c' w (ren1 x y v) cs := fun h => FRel_ren hφ hN hb h
  cases v with
  | agg n r => obtain ⟨cs, h1, h2⟩ := h; exact ⟨cs, h1, F (v := .agg n r) h2⟩
  | st fs => obtain ⟨cs, css, h1, h2, h3⟩ := h; exact ⟨cs, css, h1, h2, All2_map (fun _ _ hh => F hh) h3⟩
  | tup xs =>
    obtain ⟨vs, h1, h2⟩ := h
    refine ⟨vs, h1, All2_map (fun v u hh => ?_) h2⟩
    rcases hh with ⟨n, r, cs, e1, e2, e3⟩ | ⟨e1, e2⟩
    · subst e1; exact .inl ⟨n, r, cs, rfl, e2, F (v := .agg n r) e3⟩
    · exact .inr ⟨fun n r hh => e1 n r (ren1_agg hh), F e2⟩
  | clo g caps =>
    obtain ⟨vs, h1, h2⟩ := h
    exact ⟨vs, h1, All2_map (fun v u hh => ⟨fun n r e => hh.1 n r (ren1_agg e), F hh.2⟩) h2⟩
  | any => trivial
  | sl f r => exact F (v := .sl f r) h
  | nils => exact h
  | rp r i => exact F (v := .rp r i) h
  | p k f o i => exact F (v := .p k f o i) h
  | os k f o i len => exact F (v := .os k f o i len) h
  | gr k len => exact F (v := .gr k len) h
  | _ => exact h

theorem CRel_ren {c c' : Cx} (hφ : ∀ k, c'.φ (swk x y k) = c.φ k) (hN : c'.N = c.N) (hb : c'.base = c.base) {v : V} {cs : List Value} (h : CRel c w cs v) : CRel c' w cs (ren x y v) := by
  have F : ∀ {v : V} {cs : List Value}, FRel c w v cs → FRel c' w (ren1 x y v) cs := fun h => FRel_ren hφ hN hb h
  have hfr : ∀ f, c'.fr f = c.fr f := by intro f; unfold Cx.fr; rw [hN, hb]
  cases v with
  | row r =>
    obtain ⟨vs, sp, h1, h2⟩ := h
    refine ⟨vs, sp, h1, ?_⟩
    cases r with
    | b f xs =>
      refine All2.mono (fun a b hh => ?_) h2
      rw [hfr]; exact hh
    | _ => exact h2
  | st fs => obtain ⟨css, h1, h2⟩ := h; exact ⟨css, h1, All2_map (fun _ _ hh => F hh) h2⟩
  | agg n r => exact F (v := .agg n r) h
  | tup xs => exact h.elim
  | clo g caps => exact h.elim
  | any => exact h.elim
  | ref f o c => exact h.elim
  | sl f r => exact F (v := .sl f r) h
  | rp r i => exact F (v := .rp r i) h
  | p k f o i => exact F (v := .p k f o i) h
  | os k f o i len => exact F (v := .os k f o i len) h
  | gr k len => exact F (v := .gr k len) h
  | _ => exact h

theorem Rel.swap (h : Rel gl w0 ext av φ st a w) (hx : x < 1000) (hy : y < 1000) : Rel gl w0 ext av (fun k => φ (swk x y k)) (st.swap x y) a w := by
  have hm : ∀ k v, (st.swap x y).mem k = some v → ∃ u, st.mem (swk x y k) = some u ∧ v = ren x y u := by
    intro k v hk
    simp only [St.swap, Option.map_eq_some_iff] at hk
    obtain ⟨u, h1, h2⟩ := hk
    exact ⟨u, h1, h2.symm⟩
  have hN : (cxOf (fun k => φ (swk x y k)) (st.swap x y).mem av w0.heap.size).N = (cxOf φ st.mem av w0.heap.size).N := by
    funext b
    simp only [cxOf, eq_iff_iff]
    refine or_congr ?_ Iff.rfl
    constructor
    · rintro ⟨k, v, h1, h2⟩
      obtain ⟨u, h3, h4⟩ := hm k v h1
      exact ⟨_, u, h3, h2⟩
    · rintro ⟨k, v, h1, h2⟩
      exact ⟨swk x y k, ren x y v, by simp only [St.swap, swk_swk, h1]; rfl, by show φ (swk x y (swk x y k)) = _; rw [swk_swk]; exact h2⟩
  have hφ : ∀ k, (cxOf (fun k => φ (swk x y k)) (st.swap x y).mem av w0.heap.size).φ (swk x y k) = (cxOf φ st.mem av w0.heap.size).φ k := by
    intro k; show φ (swk x y (swk x y k)) = φ k; rw [swk_swk]
  refine ⟨h.size, h.defers, ?_, ?_, ?_, ?_, h.few, h.extav, h.avb, ?_, h.keep⟩
  · intro t v ht
    simp only [St.swap, Option.map_eq_some_iff] at ht
    obtain ⟨u, h1, rfl⟩ := ht
    exact VRel_ren hφ hN rfl (h.env t u h1)
  · intro k v hk
    obtain ⟨u, h1, rfl⟩ := hm k v hk
    rcases h.mem _ _ h1 with ⟨b, cur, e, e1, e2, e3⟩ | ⟨e1, e2, r, rfl, e3, e4⟩
    · exact .inl ⟨b, cur, e, e1, e2, CRel_ren hφ hN rfl e3⟩
    · exact .inr ⟨e1, (swk_lt hx hy).1 e2, r, rfl, e3, CRel_ren (v := .row r) hφ hN rfl e4⟩
  · intro k k' u u' b h1 h2 h3 h4
    obtain ⟨v, h5, _⟩ := hm _ _ h1
    obtain ⟨v', h6, _⟩ := hm _ _ h2
    have := h.inj _ _ _ _ _ h5 h6 h3 h4
    rw [← swk_swk x y k, this, swk_swk]
  · intro k u b h1 h2
    obtain ⟨v, h3, _⟩ := hm _ _ h1
    rcases h.own _ _ _ h3 h2 with ⟨h4, h5⟩ | ⟨h4, h5⟩
    · exact .inl ⟨h4, (swk_lt hx hy).1 h5⟩
    · have : 1000 ≤ k := by
        rcases Nat.lt_or_ge k 1000 with hk | hk
        · have := (swk_lt (k := k) hx hy).2 hk; omega
        · exact hk
      refine .inr ⟨?_, this⟩
      rw [swk_ge hx hy this] at h4
      exact h4
  · intro g r hg
    exact rowAt_cx (fun b _ hb => by rw [show (cxOf (fun k => φ (swk x y k)) (st.swap x y).mem av w0.heap.size).fr false = _ from hN]; exact hb)
      (fun g b _ hb => by rw [show (cxOf (fun k => φ (swk x y k)) (st.swap x y).mem av w0.heap.size).fr g = (cxOf φ st.mem av w0.heap.size).fr g from by unfold Cx.fr; rw [hN]; rfl]; exact hb) (h.glob g r hg)

/-- what is told so may be told so, too -/
def Imp (gl : Nat → Option Row) (w0 : World) (ext : Nat → Nat → Prop) (av : Nat → Prop) (s t : St) : Prop := ∀ φ a w, Rel gl w0 ext av φ s a w → ∃ φ', Rel gl w0 ext av φ' t a w

theorem Imp.le {s t : St} (h : t.Le s) : Imp gl w0 ext av s t := fun φ a w hr => ⟨φ, hr.weaken h⟩
theorem Imp.swap {s t : St} (x y : Nat) (hx : x < 1000) (hy : y < 1000) (h : t.Le (s.swap x y)) : Imp gl w0 ext av s t := fun φ a w hr => ⟨_, (hr.swap hx hy).weaken h⟩
theorem Imp.trans {s t u : St} (h : Imp gl w0 ext av s t) (k : Imp gl w0 ext av t u) : Imp gl w0 ext av s u := fun φ a w hr => let ⟨_, h1⟩ := h φ a w hr; k _ _ _ h1

/-! ### an own object that is only read from here on -/

noncomputable def fzV (M : Nat → Option V) (k : Nat) : V → Option V
  | .p k' f o i => if k' = k then (match M k with
      | some (.agg n (.u wd xs)) => chk (f = 0 ∧ o = 0) (some (.rp (.u wd xs) i))
      | _ => none) else some (.p k' f o i)
  | .os k' f o i len => if k' = k then (match rowOf M (.os k' f o i len) with
      | some r => chk (r.len ≤ LIM) (some (.sl true r))
      | none => none) else some (.os k' f o i len)
  | .gr k' len => if k' = k then (match rowOf M (.gr k' len) with
      | some r => chk (r.len ≤ LIM) (some (.sl true r))
      | none => none) else some (.gr k' len)
  | v => chk (v.keys.contains k = false) (some v)
noncomputable def St.frz (k : Nat) (s : St) : St :=
  { env := fun t => (s.env t).bind (fzV s.mem k), mem := fun j => if j = k then none else (match s.mem j with | some c => chk (c.keys.contains k = false) (some c) | none => none), n := s.n }

theorem Rel.frz (h : Rel gl w0 ext av φ st a w) {k : Nat} (hk : k < 1000) : Rel gl w0 ext av φ (st.frz k) a w := by
  have hmem : ∀ j c, (st.frz k).mem j = some c → j ≠ k ∧ st.mem j = some c ∧ c.keys.contains k = false := by
    intro j c hj
    simp only [St.frz] at hj
    by_cases e : j = k
    · rw [if_pos e] at hj; cases hj
    · rw [if_neg e] at hj
      cases hm : st.mem j with
      | none => rw [hm] at hj; cases hj
      | some c' =>
        rw [hm] at hj
        obtain ⟨h1, h2⟩ := chk_some hj
        cases h2
        exact ⟨e, rfl, h1⟩
  have h1 : Rel gl w0 ext av φ { env := fun _ => none, mem := (st.frz k).mem, n := st.n } a w := h.weaken ⟨rfl, fun _ _ hh => (by cases hh), fun j c hj => (hmem j c hj).2.1⟩
  have hN : ∀ b, (cxOf φ (st.frz k).mem av w0.heap.size).N b → (cxOf φ st.mem av w0.heap.size).N b := by
    rintro b (⟨j, x, hj, hb⟩ | hb)
    · exact .inl ⟨j, x, (hmem j x hj).2.1, hb⟩
    · exact .inr hb
  have hm : Mono (cxOf φ st.mem av w0.heap.size) (cxOf φ (st.frz k).mem av w0.heap.size) w w := Mono.of_le rfl hN (fun _ => rfl)
  have hfr : ∀ x b, st.mem k = some x → φ k = some b → ¬ (cxOf φ (st.frz k).mem av w0.heap.size).fr true b := by
    intro x b hx hb
    have hge : w0.heap.size ≤ b := by
      rcases h.own k x b hx hb with h2 | h2
      · exact h2.1
      · omega
    simp only [Cx.fr, if_true]
    rintro ((⟨j, y, hj, hb'⟩ | hb') | hb')
    · obtain ⟨e1, e2, _⟩ := hmem j y hj
      exact e1 (h.inj _ _ _ _ _ e2 hx hb' hb)
    · have := h.avb b hb'; omega
    · have hb' : b < w0.heap.size := hb'
      omega
  have hslice : ∀ {v : V} {r : Row} {u : Value}, rowOf st.mem v = some r → r.len ≤ LIM → VRel (cxOf φ st.mem av w0.heap.size) w v u → (∀ ad len cap, u = .slice (some ad) len cap → ∃ x, st.mem k = some x ∧ φ k = some ad.block) → VRel (cxOf φ (st.frz k).mem av w0.heap.size) w (.sl true r) u := by
    intro v r u hr hl hv hb
    refine ⟨u, rfl, reads_fresh (rowOf_reads h hr hv) hm (fun ad len cap e => ?_) hl⟩
    obtain ⟨x, hx, hb⟩ := hb ad len cap e
    exact hfr x _ hx hb
  refine ⟨h1.size, h1.defers, fun t v ht => ?_, h1.mem, h1.inj, h1.own, h1.few, h1.extav, h1.avb, h1.glob, h1.keep⟩
  simp only [St.frz] at ht
  cases hv0 : st.env t with
  | none => rw [hv0] at ht; cases ht
  | some v0 =>
    rw [hv0] at ht
    have hv := h.env t v0 hv0
    simp only [Option.bind_some] at ht
    have keyless : v0.keys.contains k = false → v0 = v → VRel (cxOf φ (st.frz k).mem av w0.heap.size) w v (a.tmps.getD t undef) := by
      rintro _ rfl
      exact VRel_mono hm (fun _ _ => rfl) hv
    cases v0 with
    | p k' f o i =>
      simp only [fzV] at ht
      by_cases e : k' = k
      · subst e
        rw [if_pos rfl] at ht
        split at ht
        · rename_i n wd xs hx
          obtain ⟨⟨rfl, rfl⟩, h3⟩ := chk_some ht
          cases h3
          obtain ⟨b, e1, e2⟩ := inv_p hv
          refine ⟨b, 0, by rw [e2]; simp [Row.esz], ?_⟩
          rcases h.mem _ _ hx with ⟨b', cur, e', g1, g2, g3⟩ | ⟨_, _, r, hr, _⟩
          · obtain rfl : b' = b := by have := g1.symm.trans e1; simpa using this
            obtain ⟨g4, g5, g6⟩ := g3
            refine ⟨g4, fun j x hj => ⟨fr_N true (hfr _ _ hx e1), ?_⟩⟩
            have : cur.toList[j]? = some (ic wd x) := by rw [g6, List.getElem?_map, hj]; rfl
            simp only [World.cell?, g2, Nat.zero_add]
            simpa using this
          · cases hr
        · cases ht
      · rw [if_neg e] at ht
        cases ht
        exact VRel_mono hm (fun _ _ => rfl) hv
    | os k' f o i len =>
      simp only [fzV] at ht
      by_cases e : k' = k
      · subst e
        rw [if_pos rfl] at ht
        cases hr : rowOf st.mem (.os k' f o i len) with
        | none => rw [hr] at ht; cases ht
        | some r =>
          rw [hr] at ht
          obtain ⟨h3, h4⟩ := chk_some ht
          cases h4
          refine hslice hr h3 hv fun ad len' cap' e2 => ?_
          obtain ⟨b, cap, e3, e4, e5⟩ := inv_os hv
          rw [e4] at e2
          cases e2
          simp only [rowOf] at hr
          cases hx : st.mem k' with
          | none => rw [hx] at hr; cases hr
          | some x => exact ⟨x, rfl, e3⟩
      · rw [if_neg e] at ht
        cases ht
        exact VRel_mono hm (fun _ _ => rfl) hv
    | gr k' len =>
      simp only [fzV] at ht
      by_cases e : k' = k
      · subst e
        rw [if_pos rfl] at ht
        cases hr : rowOf st.mem (.gr k' len) with
        | none => rw [hr] at ht; cases ht
        | some r =>
          rw [hr] at ht
          obtain ⟨h3, h4⟩ := chk_some ht
          cases h4
          refine hslice hr h3 hv fun ad len' cap' e2 => ?_
          obtain ⟨a', cap, e3, e4, e5⟩ := inv_gr hv
          simp only [rowOf] at hr
          cases hx : st.mem k' with
          | none => rw [hx] at hr; cases hr
          | some x =>
            rw [e3] at e2
            cases e2
            rcases e5 with ⟨e5, _⟩ | ⟨b, cur, ee, fr, e5, e6, _⟩
            · cases e5
            · cases e6; exact ⟨x, rfl, e5⟩
      · rw [if_neg e] at ht
        cases ht
        exact VRel_mono hm (fun _ _ => rfl) hv
    | _ =>
      obtain ⟨h3, h4⟩ := chk_some ht
      exact keyless h3 (by cases h4; rfl)

theorem Imp.frz {s t : St} (k : Nat) (hk : k < 1000) (h : t.Le (s.frz k)) : Imp gl w0 ext av s t := fun φ a w hr => ⟨_, (hr.frz hk).weaken h⟩

variable {c d : Code} {R : Exit → St → Prop}
theorem W.imp {s : St} (h : W P gl w0 ext av c s R) (hi : Imp gl w0 ext av st s) : W P gl w0 ext av c st R := fun φ a w hrel => let ⟨φ', h1⟩ := hi φ a w hrel; h φ' a w h1

theorem W.loopI {ι : Type} (S : ι → St) (m : ι → Nat) (i0 : ι) (h0 : Imp gl w0 ext av st (S i0))
    (h : ∀ i, W P gl w0 ext av c (S i) (thenQ (fun s => ∃ j, Imp gl w0 ext av s (S j) ∧ m j < m i) R)) : W P gl w0 ext av (.loop c) st R := by
  intro φ a w hrel
  obtain ⟨φ0, hrel0⟩ := h0 φ a w hrel
  let p : Act → World → Nat → Prop := fun a w n => ∃ i φ, m i = n ∧ Rel gl w0 ext av φ (S i) a w
  have hle : ∀ a w (hh : ∃ n, p a w n) n, p a w n → Classical.choose (leastN hh) ≤ n := fun a w hh n hn => (Classical.choose_spec (leastN hh)).2 n hn
  let μ : Act → World → Nat := fun a w => @dite _ (∃ n, p a w n) (Classical.propDecidable _) (fun hh => Classical.choose (leastN hh)) (fun _ => 0)
  have hμ : ∀ a w (hh : ∃ n, p a w n), μ a w = Classical.choose (leastN hh) := fun a w hh => dif_pos hh
  refine wp_loop (fun a w => ∃ n, p a w n) μ ⟨m i0, i0, φ0, rfl, hrel0⟩ ?_
  intro a w hI
  obtain ⟨i, φ, h1, h2⟩ := (Classical.choose_spec (leastN hI)).1
  rw [← hμ a w hI] at h1
  refine wp_mono (h i φ a w h2) ?_
  rintro e a' w' ⟨s, φ', h3, h4⟩
  cases e with
  | normal =>
    obtain ⟨j, h5, h6⟩ := h3
    obtain ⟨φ'', h7⟩ := h5 _ _ _ h4
    have hI' : ∃ n, p a' w' n := ⟨m j, j, φ'', rfl, h7⟩
    refine ⟨hI', ?_⟩
    rw [hμ a' w' hI', ← h1]
    exact Nat.lt_of_le_of_lt (hle a' w' hI' _ ⟨j, φ'', rfl, h7⟩) h6
  | _ => exact ⟨s, φ', h3, h4⟩

theorem W.joinI {ι : Type} (M : ι → St) (h1 : W P gl w0 ext av c st (thenQ (fun s => ∃ i, Imp gl w0 ext av s (M i)) R)) (h2 : ∀ i, W P gl w0 ext av d (M i) R) : W P gl w0 ext av (.seq c d) st R := by
  refine W.seq (W.mono h1 ?_)
  intro e s h
  cases e with
  | normal => obtain ⟨i, hi⟩ := h; exact W.imp (h2 i) hi
  | _ => exact h

/-- a state in the middle -/
theorem W.mid {R' : Exit → St → Prop} (s1 : St) (h1 : W P gl w0 ext av c st (thenQ (fun s => Imp gl w0 ext av s s1) R)) (h2 : W P gl w0 ext av d s1 R') : W P gl w0 ext av c st (thenQ (fun s => W P gl w0 ext av d s R') R) := by
  refine W.mono h1 ?_
  intro e s h
  cases e with
  | normal => exact W.imp h2 h
  | _ => exact h
theorem W.midI {ι : Type} {R' : Exit → St → Prop} (M : ι → St) (h1 : W P gl w0 ext av c st (thenQ (fun s => ∃ i, Imp gl w0 ext av s (M i)) R)) (h2 : ∀ i, W P gl w0 ext av d (M i) R') : W P gl w0 ext av c st (thenQ (fun s => W P gl w0 ext av d s R') R) := by
  refine W.mono h1 ?_
  intro e s h
  cases e with
  | normal => obtain ⟨i, hi⟩ := h; exact W.imp (h2 i) hi
  | _ => exact h

end

theorem getD_ge {α : Type} {l : List α} {i : Nat} {d : α} (h : l.length ≤ i) : l.getD i d = d := by simp [List.getD_eq_getElem?_getD, List.getElem?_eq_none h]
/-! ### operations with a guard whose word is known -/
section
variable {Γ : Ctx} {all os : List Oper} {o : Oper} {st st1 : St} {R : St → Prop} {ops : Array Oper} {A : List (List Nat)} {fs : List Foot} {j : Nat} {want : Bool}
  {g : Nat} {as : Array Operand} {ts : Array TypeId} {ty : TypeId} {pos : String} {af : Array Edge} {dst : Option Nat} {sp : FSpec} {args ins outs : List V} {ret : V} {res : Res} {e m : Nat → Option V} {n : Nat}

theorem SW.yes (hg : o.guard = some (j, want)) (hx : guardB all st j want = some want) (h : runOp Γ st o = some st1) (k : SW Γ all st1 os R) : SW Γ all st (o :: os) R :=
  SW.guard hg hx (fun _ => ⟨st1, h, k⟩) (fun hb => by cases want <;> cases hb)
theorem SW.no {d : Nat} (hg : o.guard = some (j, want)) (hd : o.dst = some d) (hx : guardB all ⟨e, m, n⟩ j want = some (!want)) (hl : Nat.blt d n = true) (k : SW Γ all ⟨put d (.tup []) e, m, n⟩ os R) : SW Γ all ⟨e, m, n⟩ (o :: os) R :=
  SW.guard hg hx (fun hb => by cases want <;> cases hb) (fun _ => ⟨d, hd, by simpa [Nat.blt_eq] using hl, k⟩)
theorem SW.callY (hx : guardB all ⟨e, m, n⟩ j want = some want) (h1 : mapO (opnd Γ e) as.toList = some args) (hf : Γ.fn g = some sp) (h2 : mapO (inV sp.refSl (restr (args.flatMap V.keys) m)) args = some ins) (h3 : sp.run ins = some (ret, outs)) (h4 : CallOK sp.refSl args ret outs)
    (h5 : callRes sp.refSl (dst.getD 0) args ret outs = res) (h6 : St.after ⟨e, m, n⟩ dst res = some st1) (k : SW Γ all st1 os R) : SW Γ all ⟨e, m, n⟩ (⟨dst, .call { callee := .value (.func g), args := as, argTypes := ts }, ty, pos, af, some (j, want)⟩ :: os) R :=
  SW.yes rfl hx (runOp_call h1 hf h2 h3 h4 h5 h6) k

theorem DW.yes {r : Rec} {f : Foot} (hg : o.guard = some (j, want)) (hx : guardB ops.toList st j want = some want) (h : recOp Γ st o = some r) (hf : r.foot = f) (hs : r.ev.app st = st1) (k : DW Γ ops A (f :: fs) st1 os R) : DW Γ ops A fs st (o :: os) R :=
  DW.guard hg hx (fun _ => ⟨r, f, st1, h, hf, hs, k⟩) (fun hb => by cases want <;> cases hb)
theorem DW.no {d : Nat} (hg : o.guard = some (j, want)) (hd : o.dst = some d) (hx : guardB ops.toList ⟨e, m, n⟩ j want = some (!want)) (hl : Nat.blt d n = true) (k : DW Γ ops A (⟨[], [], [], [], []⟩ :: fs) ⟨put d (.tup []) e, m, n⟩ os R) : DW Γ ops A fs ⟨e, m, n⟩ (o :: os) R :=
  DW.guard hg hx (fun hb => by cases want <;> cases hb) (fun _ => ⟨d, hd, by simpa [Nat.blt_eq] using hl, k⟩)
theorem DW.callY {ck : List Nat} {f : Foot} (hx : guardB ops.toList ⟨e, m, n⟩ j want = some want) (h1 : mapO (opnd Γ e) as.toList = some args) (hf : Γ.fn g = some sp) (h2 : mapO (inV sp.refSl (restr (args.flatMap V.keys) m)) args = some ins) (h3 : sp.run ins = some (ret, outs)) (h4 : CallOK sp.refSl args ret outs)
    (h5 : callRes sp.refSl (dst.getD 0) args ret outs = res) (h6 : keysAt m (args.flatMap V.keys) = some ck) (h7 : dstOK n dst res = true) (h8 : ({ ev := { dst := dst, res := res }, rk := args.flatMap V.keys, ck := ck } : Rec).foot = f)
    (h9 : Ev.app { dst := dst, res := res } ⟨e, m, n⟩ = st1) (k : DW Γ ops A (f :: fs) st1 os R) : DW Γ ops A fs ⟨e, m, n⟩ (⟨dst, .call { callee := .value (.func g), args := as, argTypes := ts }, ty, pos, af, some (j, want)⟩ :: os) R :=
  DW.yes rfl hx (recOp_call (f := f) h1 hf h2 h3 h4 h5 h6 h7) h8 h9 k
end

@[go_sem ↓] theorem swap_env (x y : Nat) (s : St) (t : Nat) : (s.swap x y).env t = (s.env t).map (ren x y) := rfl
theorem subL_zero {w : Nat} (xs : List (BitVec w)) (n : Nat) : subL xs 0 n = xs.take n := by simp [subL]
theorem subL_all {w : Nat} (xs : List (BitVec w)) : subL xs 0 xs.length = xs := by simp [subL]
theorem subL_rest {w : Nat} (xs : List (BitVec w)) (n : Nat) (h : n ≤ xs.length) : subL xs n (xs.length - n) = xs.drop n := by
  unfold subL
  rw [List.take_of_length_le (by simp)]
theorem eqI (z : Int) : (z = z) = True := eq_self z
theorem eqN (z : Nat) : (z = z) = True := eq_self z

@[go_sem ↓] theorem frz_env (k : Nat) (s : St) (t : Nat) : (s.frz k).env t = (s.env t).bind (fzV s.mem k) := rfl
@[go_sem ↓] theorem frz_mem (k : Nat) (s : St) (j : Nat) : (s.frz k).mem j = if j = k then none else (match s.mem j with | some c => chk (c.keys.contains k = false) (some c) | none => none) := rfl
@[go_sem ↓] theorem swap_mem (x y : Nat) (s : St) (t : Nat) : (s.swap x y).mem t = (s.mem (swk x y t)).map (ren x y) := rfl
@[go_sem] theorem opnds_builtin (b : Builtin) (as : Array Operand) (ts : Array TypeId) : (Call.mk (.builtin b) as ts).operands = as := by simp [Call.operands]
@[go_sem] theorem restr_eq (ks : List Nat) (m : Nat → Option V) (k : Nat) : restr ks m k = if ks.contains k = true then m k else none := by
  unfold restr chk
  by_cases h : ks.contains k = true
  · rw [if_pos h, if_pos h]
  · rw [if_neg h, if_neg h]
theorem u8_lt (x : BitVec 8) : (x.toNat < 9223372036854775808) = True := eq_true (by have := x.isLt; omega)
theorem u16_lt (x : BitVec 16) : (x.toNat < 9223372036854775808) = True := eq_true (by have := x.isLt; omega)
theorem u32_lt (x : BitVec 32) : (x.toNat < 9223372036854775808) = True := eq_true (by have := x.isLt; omega)
theorem itN_succ {α : Type} (f : Nat → α → α) (n : Nat) (s : α) : itN f (n + 1) s = f n (itN f n s) := rfl
theorem toN_add (i j : Nat) : ((i : Int) + (j : Int)).toNat = i + j := by omega


attribute [go_sem] fzV litB allC aSame Ty.bsz normIx guardB ByteArray.size Row.ro MAXAPP LIM swk ren1 ren

end Go.Vm

/- An operation at a time, its operands first. -/
namespace Go.Vm
open Go
set_option linter.unusedVariables false

section
variable {Γ : Ctx} {all os : List Oper} {o : Oper} {e m : Nat → Option V} {n : Nat} {st1 : St} {R : St → Prop} {ops : Array Oper} {A : List (List Nat)} {fs : List Foot} {l : List Operand} {args : List V} {res : Res} {ck : List Nat} {f : Foot} {j : Nat} {want : Bool}

theorem runOp_of (hl : o.op.operands.toList = l) (h1 : mapO (opnd Γ e) l = some args) (h2 : act Γ (restr (args.flatMap V.keys) m) (o.dst.getD 0) o.op args = some res) (h3 : St.after ⟨e, m, n⟩ o.dst res = some st1) : runOp Γ ⟨e, m, n⟩ o = some st1 := by
  unfold runOp argsOf
  dsimp only
  rw [hl, h1]
  dsimp only
  rw [h2]
  exact h3

theorem SW.opA (hg : o.guard = none) (hl : o.op.operands.toList = l) (h1 : mapO (opnd Γ e) l = some args) (h2 : act Γ (restr (args.flatMap V.keys) m) (o.dst.getD 0) o.op args = some res) (h3 : St.after ⟨e, m, n⟩ o.dst res = some st1)
    (k : SW Γ all st1 os R) : SW Γ all ⟨e, m, n⟩ (o :: os) R := SW.op hg (runOp_of hl h1 h2 h3) k
theorem SW.opY (hg : o.guard = some (j, want)) (hx : guardB all ⟨e, m, n⟩ j want = some want) (hl : o.op.operands.toList = l) (h1 : mapO (opnd Γ e) l = some args) (h2 : act Γ (restr (args.flatMap V.keys) m) (o.dst.getD 0) o.op args = some res)
    (h3 : St.after ⟨e, m, n⟩ o.dst res = some st1) (k : SW Γ all st1 os R) : SW Γ all ⟨e, m, n⟩ (o :: os) R := SW.yes hg hx (runOp_of hl h1 h2 h3) k

theorem recOp_of (hl : o.op.operands.toList = l) (h1 : mapO (opnd Γ e) l = some args) (h2 : act Γ (restr (args.flatMap V.keys) m) (o.dst.getD 0) o.op args = some res) (h3 : keysAtO o.op m (args.flatMap V.keys) = some ck) (h4 : dstOK n o.dst res = true) :
    recOp Γ ⟨e, m, n⟩ o = some { ev := { dst := o.dst, res := res }, rk := args.flatMap V.keys, ck := ck } := by
  unfold recOp argsOf
  dsimp only
  rw [hl, h1]
  dsimp only
  rw [h2]
  dsimp only
  rw [h3]
  dsimp only
  rw [chk_ok h4]

theorem app_after (h4 : dstOK n o.dst res = true) (h5 : St.after ⟨e, m, n⟩ o.dst res = some st1) : Ev.app { dst := o.dst, res := res } ⟨e, m, n⟩ = st1 := by
  unfold St.after at h5
  unfold Ev.app
  unfold dstOK at h4
  cases hd : o.dst with
  | none =>
    rw [hd] at h5 h4
    dsimp only at h5 h4
    cases hn : res.new with
    | none =>
      rw [hn] at h5
      dsimp only at h5
      have := (chk_some h5).2
      cases this
      rfl
    | some c => rw [hn] at h4; simp at h4
  | some d =>
    rw [hd] at h5
    have := (chk_some h5).2
    cases this
    rfl

theorem DW.opA (hg : o.guard = none) (hl : o.op.operands.toList = l) (h1 : mapO (opnd Γ e) l = some args) (h2 : act Γ (restr (args.flatMap V.keys) m) (o.dst.getD 0) o.op args = some res) (h3 : keysAtO o.op m (args.flatMap V.keys) = some ck) (h4 : dstOK n o.dst res = true)
    (h5 : St.after ⟨e, m, n⟩ o.dst res = some st1) (h6 : ({ ev := { dst := o.dst, res := res }, rk := args.flatMap V.keys, ck := ck } : Rec).foot = f) (k : DW Γ ops A (f :: fs) st1 os R) : DW Γ ops A fs ⟨e, m, n⟩ (o :: os) R :=
  DW.op hg (recOp_of hl h1 h2 h3 h4) h6 (app_after h4 h5) k
theorem DW.opY (hg : o.guard = some (j, want)) (hx : guardB ops.toList ⟨e, m, n⟩ j want = some want) (hl : o.op.operands.toList = l) (h1 : mapO (opnd Γ e) l = some args) (h2 : act Γ (restr (args.flatMap V.keys) m) (o.dst.getD 0) o.op args = some res)
    (h3 : keysAtO o.op m (args.flatMap V.keys) = some ck) (h4 : dstOK n o.dst res = true) (h5 : St.after ⟨e, m, n⟩ o.dst res = some st1) (h6 : ({ ev := { dst := o.dst, res := res }, rk := args.flatMap V.keys, ck := ck } : Rec).foot = f) (k : DW Γ ops A (f :: fs) st1 os R) : DW Γ ops A fs ⟨e, m, n⟩ (o :: os) R :=
  DW.yes hg hx (recOp_of hl h1 h2 h3 h4) h6 (app_after h4 h5) k
end

section
variable {Γ : Ctx} {all os : List Oper} {e m : Nat → Option V} {n : Nat} {st1 : St} {R : St → Prop} {ops : Array Oper} {A : List (List Nat)} {fs : List Foot} {args ins outs : List V} {ret : V} {res : Res} {ck : List Nat} {f : Foot} {j : Nat} {want : Bool}
  {g : Nat} {l : List Operand} {ts : Array TypeId} {ty : TypeId} {pos : String} {af : Array Edge} {dst : Option Nat} {sp : FSpec}
theorem SW.callA (h1 : mapO (opnd Γ e) l = some args) (hf : Γ.fn g = some sp) (h2 : mapO (inV sp.refSl (restr (args.flatMap V.keys) m)) args = some ins) (h3 : sp.run ins = some (ret, outs)) (h4 : CallOK sp.refSl args ret outs)
    (h5 : callRes sp.refSl (dst.getD 0) args ret outs = res) (h6 : St.after ⟨e, m, n⟩ dst res = some st1) (k : SW Γ all st1 os R) : SW Γ all ⟨e, m, n⟩ (⟨dst, .call { callee := .value (.func g), args := List.toArray l, argTypes := ts }, ty, pos, af, none⟩ :: os) R :=
  SW.call (by simpa using h1) hf h2 h3 h4 h5 h6 k
theorem SW.callAY (hx : guardB all ⟨e, m, n⟩ j want = some want) (h1 : mapO (opnd Γ e) l = some args) (hf : Γ.fn g = some sp) (h2 : mapO (inV sp.refSl (restr (args.flatMap V.keys) m)) args = some ins) (h3 : sp.run ins = some (ret, outs)) (h4 : CallOK sp.refSl args ret outs)
    (h5 : callRes sp.refSl (dst.getD 0) args ret outs = res) (h6 : St.after ⟨e, m, n⟩ dst res = some st1) (k : SW Γ all st1 os R) : SW Γ all ⟨e, m, n⟩ (⟨dst, .call { callee := .value (.func g), args := List.toArray l, argTypes := ts }, ty, pos, af, some (j, want)⟩ :: os) R :=
  SW.callY hx (by simpa using h1) hf h2 h3 h4 h5 h6 k
theorem DW.callA (h1 : mapO (opnd Γ e) l = some args) (hf : Γ.fn g = some sp) (h2 : mapO (inV sp.refSl (restr (args.flatMap V.keys) m)) args = some ins) (h3 : sp.run ins = some (ret, outs)) (h4 : CallOK sp.refSl args ret outs)
    (h5 : callRes sp.refSl (dst.getD 0) args ret outs = res) (h6 : keysAt m (args.flatMap V.keys) = some ck) (h7 : dstOK n dst res = true) (h9 : St.after ⟨e, m, n⟩ dst res = some st1) (h8 : ({ ev := { dst := dst, res := res }, rk := args.flatMap V.keys, ck := ck } : Rec).foot = f)
    (k : DW Γ ops A (f :: fs) st1 os R) : DW Γ ops A fs ⟨e, m, n⟩ (⟨dst, .call { callee := .value (.func g), args := List.toArray l, argTypes := ts }, ty, pos, af, none⟩ :: os) R :=
  DW.call (by simpa using h1) hf h2 h3 h4 h5 h6 h7 h8 (app_after (o := ⟨dst, .move (.tmp 0), ty, pos, af, none⟩) h7 h9) k
theorem DW.callAY (hx : guardB ops.toList ⟨e, m, n⟩ j want = some want) (h1 : mapO (opnd Γ e) l = some args) (hf : Γ.fn g = some sp) (h2 : mapO (inV sp.refSl (restr (args.flatMap V.keys) m)) args = some ins) (h3 : sp.run ins = some (ret, outs)) (h4 : CallOK sp.refSl args ret outs)
    (h5 : callRes sp.refSl (dst.getD 0) args ret outs = res) (h6 : keysAt m (args.flatMap V.keys) = some ck) (h7 : dstOK n dst res = true) (h9 : St.after ⟨e, m, n⟩ dst res = some st1) (h8 : ({ ev := { dst := dst, res := res }, rk := args.flatMap V.keys, ck := ck } : Rec).foot = f)
    (k : DW Γ ops A (f :: fs) st1 os R) : DW Γ ops A fs ⟨e, m, n⟩ (⟨dst, .call { callee := .value (.func g), args := List.toArray l, argTypes := ts }, ty, pos, af, some (j, want)⟩ :: os) R :=
  DW.callY hx (by simpa using h1) hf h2 h3 h4 h5 h6 h7 h8 (app_after (o := ⟨dst, .move (.tmp 0), ty, pos, af, none⟩) h7 h9) k
end

/-! ### the operands -/
theorem mapO_opn (Γ : Ctx) (e : Nat → Option V) (a : Operand) (as : List Operand) : mapO (opnd Γ e) (a :: as) = match opnd Γ e a with | some b => (match mapO (opnd Γ e) as with | some bs => some (b :: bs) | none => none) | none => none := by
  cases h : opnd Γ e a with
  | none => simp [mapO, h]
  | some b => cases h2 : mapO (opnd Γ e) as <;> simp [mapO, h, h2]
theorem mapO_onil (Γ : Ctx) (e : Nat → Option V) : mapO (opnd Γ e) [] = some [] := rfl
theorem opnd_tmp (Γ : Ctx) (e : Nat → Option V) (t : Nat) : opnd Γ e (.tmp t) = e t := rfl
theorem opnd_const (Γ : Ctx) (e : Nat → Option V) (c : Value) : opnd Γ e (.const c) = constV c := rfl
theorem opnd_func (Γ : Ctx) (e : Nat → Option V) (f : Nat) : opnd Γ e (.func f) = some (.clo f []) := rfl
theorem opnd_glob (P : Program) (gl : Nat → Option Row) (l : List (Nat × FSpec)) (e : Nat → Option V) (g : Nat) : opnd (ctx P gl l) e (.global g) = (gl g).map (.rp · 0) := rfl
theorem ctx_ty (P : Program) (gl : Nat → Option Row) (l : List (Nat × FSpec)) (t : Nat) : (ctx P gl l).ty t = tyOf P 8 t := rfl
theorem ctx_fn (P : Program) (gl : Nat → Option Row) (l : List (Nat × FSpec)) (t : Nat) : (ctx P gl l).fn t = lookF t l := rfl
theorem lookN_at (k i : Nat) (v : V) (l : List (Nat × V)) : lookN k ((i, v) :: l) = if i = k then some v else lookN k l := rfl

theorem opl_000 (t : TypeId) (x a b c : Operand) : (Op.slice t x none none none).operands.toList = [x] := rfl
theorem opl_001 (t : TypeId) (x a b c : Operand) : (Op.slice t x none none (some c)).operands.toList = [x, c] := rfl
theorem opl_010 (t : TypeId) (x a b c : Operand) : (Op.slice t x none (some b) none).operands.toList = [x, b] := rfl
theorem opl_011 (t : TypeId) (x a b c : Operand) : (Op.slice t x none (some b) (some c)).operands.toList = [x, b, c] := rfl
theorem opl_100 (t : TypeId) (x a b c : Operand) : (Op.slice t x (some a) none none).operands.toList = [x, a] := rfl
theorem opl_101 (t : TypeId) (x a b c : Operand) : (Op.slice t x (some a) none (some c)).operands.toList = [x, a, c] := rfl
theorem opl_110 (t : TypeId) (x a b c : Operand) : (Op.slice t x (some a) (some b) none).operands.toList = [x, a, b] := rfl
theorem opl_111 (t : TypeId) (x a b c : Operand) : (Op.slice t x (some a) (some b) (some c)).operands.toList = [x, a, b, c] := rfl

/-! ### the state behind -/
section
variable {e m : Nat → Option V} {n d k : Nat} {v c : V}
theorem aft_val (h : Nat.blt d n = true) : St.after ⟨e, m, n⟩ (some d) { v := v } = some ⟨put d v e, m, n⟩ := after_val (by simpa [Nat.blt_eq] using h)
theorem aft_none : St.after ⟨e, m, n⟩ none { v := v } = some ⟨e, m, n⟩ := after_none
theorem aft_newv (h : Nat.blt d n = true) : St.after ⟨e, m, n⟩ (some d) { v := v, new := some c, pg := [d] } = some ⟨put d v (purge [d] e), put d c (purge [d] m), n⟩ := after_newv (by simpa [Nat.blt_eq] using h)
theorem aft_updn : St.after ⟨e, m, n⟩ none { v := v, upd := [(k, c)] } = some ⟨e, put k c m, n⟩ := after_updn
theorem aft_updv (h : Nat.blt d n = true) : St.after ⟨e, m, n⟩ (some d) { v := v, upd := [(k, c)] } = some ⟨put d v e, put k c m, n⟩ := after_updv (by simpa [Nat.blt_eq] using h)
theorem aft_updp (h : Nat.blt d n = true) : St.after ⟨e, m, n⟩ (some d) { v := v, upd := [(k, c)], pg := [k] } = some ⟨put d v (purge [k] e), put k c (purge [k] m), n⟩ := after_updp (by simpa [Nat.blt_eq] using h)
end

theorem keysAt_nil (M : Nat → Option V) : keysAt M [] = some [] := rfl
theorem keysAt_one {M : Nat → Option V} {k : Nat} {x : V} (h : M k = some x) : keysAt M [k] = some x.keys := by simp [keysAt, h]

end Go.Vm

/- Steps whose small goals are solved as they come up. -/
namespace Go.Vm
open Go
set_option linter.unusedVariables false

section
variable {P : Program} {gl : Nat → Option Row} {w0 : World} {ext : Nat → Nat → Prop} {av : Nat → Prop} {Γ : Ctx} {all os : List Oper} {e m : Nat → Option V} {n : Nat} {st st1 : St} {R : St → Prop} {Q : Exit → St → Prop} {ops : Array Oper} {A : List (List Nat)} {fs : List Foot} {args ins outs : List V} {ret : V} {res : Res} {ck : List Nat} {f : Foot} {j : Nat} {want : Bool}
  {g : Nat} {l : List Operand} {ts : Array TypeId} {ty : TypeId} {pos : String} {af : Array Edge} {dst : Option Nat} {sp : FSpec} {op : Op} {E : Prop} {x y : Code} {q : Operand} {b : Bool}

/-- an operation is next -/
structure SWop (Γ : Ctx) (all : List Oper) (e m : Nat → Option V) (n : Nat) (dst : Option Nat) (op : Op) (ty : TypeId) (pos : String) (af : Array Edge) (gd : Option (Nat × Bool)) (os : List Oper) (R : St → Prop) : Prop where
  out : SW Γ all ⟨e, m, n⟩ (⟨dst, op, ty, pos, af, gd⟩ :: os) R
theorem SW.toOp (h : SWop Γ all e m n dst op ty pos af none os R) : SW Γ all ⟨e, m, n⟩ (⟨dst, op, ty, pos, af, none⟩ :: os) R := h.out
theorem SW.toG (h : SWop Γ all e m n dst op ty pos af (some (j, want)) os R) : SW Γ all ⟨e, m, n⟩ (⟨dst, op, ty, pos, af, some (j, want)⟩ :: os) R := h.out
/-- a call is next -/
structure SWcall (Γ : Ctx) (all : List Oper) (e m : Nat → Option V) (n : Nat) (dst : Option Nat) (g : Nat) (l : List Operand) (ts : Array TypeId) (ty : TypeId) (pos : String) (af : Array Edge) (gd : Option (Nat × Bool)) (os : List Oper) (R : St → Prop) : Prop where
  out : SW Γ all ⟨e, m, n⟩ (⟨dst, .call { callee := .value (.func g), args := List.toArray l, argTypes := ts }, ty, pos, af, gd⟩ :: os) R
theorem SW.toC (h : SWcall Γ all e m n dst g l ts ty pos af none os R) : SW Γ all ⟨e, m, n⟩ (⟨dst, .call { callee := .value (.func g), args := List.toArray l, argTypes := ts }, ty, pos, af, none⟩ :: os) R := h.out
theorem SW.toCG (h : SWcall Γ all e m n dst g l ts ty pos af (some (j, want)) os R) : SW Γ all ⟨e, m, n⟩ (⟨dst, .call { callee := .value (.func g), args := List.toArray l, argTypes := ts }, ty, pos, af, some (j, want)⟩ :: os) R := h.out

theorem SWop.go (he : E) (k : SW Γ all st1 os R)
    (hl : op.operands.toList = l := by simp only [opl_000, opl_100, opl_010, opl_110, opl_001, opl_101, opl_011, opl_111, Op.operands, opnds_builtin, List.toList_toArray, List.map_cons, List.map_nil, Option.toArray_some, Option.toArray_none, List.append_toArray, List.cons_append, List.nil_append, List.append_nil, List.toArray_appendList] <;> rfl)
    (h1 : mapO (opnd Γ e) l = some args := by simp (disch := omega) only [↓mapO_opn, ↓mapO_onil, ↓opnd_tmp, ↓opnd_const, ↓opnd_func, ↓opnd_glob, ↓put_at, ↓purge_at, lookN_at, lookN, purge1_val, purge1_none, V.keys, V.keys1, constV, chk_ok, chk_true, ByteArray.size, Option.map_some, argV, List.length_cons, List.length_nil, List.size_toArray, ↓reduceIte, Nat.reduceLT, Nat.reduceLeDiff, Nat.reduceAdd, Nat.reduceEqDiff, Nat.reduceBEq, beq_self_eq_true, Bool.true_or, Bool.or_true, and_self, and_true, true_and, true_or, or_true, false_or, or_false, Bool.or_false, Bool.false_or, Int.reduceLE, Int.reduceLT, Int.reduceNeg, BitVec.reduceOfInt, List.getElem?_cons_zero, List.getElem?_cons_succ, reduceCtorEq, Bool.false_eq_true, List.flatMap_cons, List.flatMap_nil, List.append_nil, List.nil_append, List.cons_append, List.any_cons, List.any_nil, List.contains_cons, List.contains_nil, Bool.not_true, Bool.not_false] <;> rfl)
    (h2 : E → act Γ (restr (args.flatMap V.keys) m) (dst.getD 0) op args = some res := by intro zz; simp (disch := omega) only [go_sem, List.take_zero, List.take_succ_cons, and_false, false_and, not_false_eq_true, ↓act, ↓restr_eq, ↓ctx_ty, ↓ctx_fn, ↓put_at, ↓purge_at, mapO, lookN, Option.getD_some, Option.map_some, Option.bind_some, List.length_cons, List.length_nil, List.length_append, List.length_set, List.toList_toArray, ↓reduceIte, ↓reduceDIte, Nat.reduceLT, Nat.reduceLeDiff, Nat.reduceAdd, Nat.reduceMul, Nat.reduceSub, Nat.reduceEqDiff, Nat.reduceBEq, beq_self_eq_true, Bool.true_or, Bool.or_true, and_self, and_true, true_and, not_true_eq_false, decide_true, decide_false, decide_eq_true_eq, Option.isNone_none, Option.isNone_some, List.isEmpty_nil, Option.isSome_some, true_or, or_true, false_or, or_false, Bool.and_true, Bool.true_and, Bool.or_false, Bool.false_or, Bool.not_true, Bool.not_false, Int.reduceLE, Int.reduceLT, Int.reduceNeg, Int.reduceAdd, Int.reduceMul, Int.reduceSub, Int.reduceToNat, BitVec.reduceOfInt, List.getElem?_cons_zero, List.getElem?_cons_succ, reduceCtorEq, Bool.false_eq_true, List.flatMap_cons, List.flatMap_nil, List.append_nil, List.nil_append, List.cons_append, Option.isSome_none, List.set_cons_zero, List.set_cons_succ, List.getD_cons_zero, List.getD_cons_succ, List.size_toArray, u8_lt, u16_lt, u32_lt, List.map_cons, List.map_nil, List.filterMap_nil, List.filterMap_cons, List.head?_nil, List.head?_cons, List.zip_cons_cons, List.zip_nil_left, List.zip_nil_right, List.any_cons, List.any_nil, List.all_cons, List.all_nil, List.contains_cons, List.contains_nil, Int.toNat_natCast, Int.toNat_zero, BitVec.toNat_ofNat, Nat.reducePow, Nat.reduceMod, toN_add, Nat.zero_add, Nat.add_zero, Nat.mul_one, Nat.zero_mul, zz] <;> rfl)
    (h3 : St.after ⟨e, m, n⟩ dst res = some st1 := by first | exact aft_val rfl | exact aft_none | exact aft_newv rfl | exact aft_updn | exact aft_updv rfl | exact aft_updp rfl | (simp (disch := omega) only [go_sem, List.take_zero, List.take_succ_cons, and_false, false_and, not_false_eq_true, ↓act, ↓restr_eq, ↓ctx_ty, ↓ctx_fn, ↓put_at, ↓purge_at, mapO, lookN, Option.getD_some, Option.map_some, Option.bind_some, List.length_cons, List.length_nil, List.length_append, List.length_set, List.toList_toArray, ↓reduceIte, ↓reduceDIte, Nat.reduceLT, Nat.reduceLeDiff, Nat.reduceAdd, Nat.reduceMul, Nat.reduceSub, Nat.reduceEqDiff, Nat.reduceBEq, beq_self_eq_true, Bool.true_or, Bool.or_true, and_self, and_true, true_and, not_true_eq_false, decide_true, decide_false, decide_eq_true_eq, Option.isNone_none, Option.isNone_some, List.isEmpty_nil, Option.isSome_some, true_or, or_true, false_or, or_false, Bool.and_true, Bool.true_and, Bool.or_false, Bool.false_or, Bool.not_true, Bool.not_false, Int.reduceLE, Int.reduceLT, Int.reduceNeg, Int.reduceAdd, Int.reduceMul, Int.reduceSub, Int.reduceToNat, BitVec.reduceOfInt, List.getElem?_cons_zero, List.getElem?_cons_succ, reduceCtorEq, Bool.false_eq_true, List.flatMap_cons, List.flatMap_nil, List.append_nil, List.nil_append, List.cons_append, Option.isSome_none, List.set_cons_zero, List.set_cons_succ, List.getD_cons_zero, List.getD_cons_succ, List.size_toArray, u8_lt, u16_lt, u32_lt, List.map_cons, List.map_nil, List.filterMap_nil, List.filterMap_cons, List.head?_nil, List.head?_cons, List.zip_cons_cons, List.zip_nil_left, List.zip_nil_right, List.any_cons, List.any_nil, List.all_cons, List.all_nil, List.contains_cons, List.contains_nil, Int.toNat_natCast, Int.toNat_zero, BitVec.toNat_ofNat, Nat.reducePow, Nat.reduceMod, toN_add, Nat.zero_add, Nat.add_zero, Nat.mul_one, Nat.zero_mul] <;> rfl)) : SWop Γ all e m n dst op ty pos af none os R :=
  ⟨SW.opA (o := ⟨dst, op, ty, pos, af, none⟩) rfl hl h1 (h2 he) h3 k⟩
theorem SWop.yes (he : E) (k : SW Γ all st1 os R)
    (hx : E → guardB all ⟨e, m, n⟩ j want = some want := by intro zz; simp (disch := omega) only [guardB, List.getElem?_cons_zero, List.getElem?_cons_succ, ↓mapO_opn, ↓mapO_onil, ↓opnd_tmp, ↓opnd_const, ↓opnd_func, ↓opnd_glob, ↓put_at, ↓purge_at, lookN_at, lookN, purge1_val, purge1_none, V.keys, V.keys1, constV, chk_ok, chk_true, ByteArray.size, Option.map_some, argV, List.length_cons, List.length_nil, List.size_toArray, ↓reduceIte, Nat.reduceLT, Nat.reduceLeDiff, Nat.reduceAdd, Nat.reduceEqDiff, Nat.reduceBEq, beq_self_eq_true, Bool.true_or, Bool.or_true, and_self, and_true, true_and, true_or, or_true, false_or, or_false, Bool.or_false, Bool.false_or, Int.reduceLE, Int.reduceLT, Int.reduceNeg, BitVec.reduceOfInt, List.getElem?_cons_zero, List.getElem?_cons_succ, reduceCtorEq, Bool.false_eq_true, List.flatMap_cons, List.flatMap_nil, List.append_nil, List.nil_append, List.cons_append, List.any_cons, List.any_nil, List.contains_cons, List.contains_nil, Bool.not_true, Bool.not_false, zz] <;> rfl)
    (hl : op.operands.toList = l := by simp only [opl_000, opl_100, opl_010, opl_110, opl_001, opl_101, opl_011, opl_111, Op.operands, opnds_builtin, List.toList_toArray, List.map_cons, List.map_nil, Option.toArray_some, Option.toArray_none, List.append_toArray, List.cons_append, List.nil_append, List.append_nil, List.toArray_appendList] <;> rfl)
    (h1 : mapO (opnd Γ e) l = some args := by simp (disch := omega) only [↓mapO_opn, ↓mapO_onil, ↓opnd_tmp, ↓opnd_const, ↓opnd_func, ↓opnd_glob, ↓put_at, ↓purge_at, lookN_at, lookN, purge1_val, purge1_none, V.keys, V.keys1, constV, chk_ok, chk_true, ByteArray.size, Option.map_some, argV, List.length_cons, List.length_nil, List.size_toArray, ↓reduceIte, Nat.reduceLT, Nat.reduceLeDiff, Nat.reduceAdd, Nat.reduceEqDiff, Nat.reduceBEq, beq_self_eq_true, Bool.true_or, Bool.or_true, and_self, and_true, true_and, true_or, or_true, false_or, or_false, Bool.or_false, Bool.false_or, Int.reduceLE, Int.reduceLT, Int.reduceNeg, BitVec.reduceOfInt, List.getElem?_cons_zero, List.getElem?_cons_succ, reduceCtorEq, Bool.false_eq_true, List.flatMap_cons, List.flatMap_nil, List.append_nil, List.nil_append, List.cons_append, List.any_cons, List.any_nil, List.contains_cons, List.contains_nil, Bool.not_true, Bool.not_false] <;> rfl)
    (h2 : E → act Γ (restr (args.flatMap V.keys) m) (dst.getD 0) op args = some res := by intro zz; simp (disch := omega) only [go_sem, List.take_zero, List.take_succ_cons, and_false, false_and, not_false_eq_true, ↓act, ↓restr_eq, ↓ctx_ty, ↓ctx_fn, ↓put_at, ↓purge_at, mapO, lookN, Option.getD_some, Option.map_some, Option.bind_some, List.length_cons, List.length_nil, List.length_append, List.length_set, List.toList_toArray, ↓reduceIte, ↓reduceDIte, Nat.reduceLT, Nat.reduceLeDiff, Nat.reduceAdd, Nat.reduceMul, Nat.reduceSub, Nat.reduceEqDiff, Nat.reduceBEq, beq_self_eq_true, Bool.true_or, Bool.or_true, and_self, and_true, true_and, not_true_eq_false, decide_true, decide_false, decide_eq_true_eq, Option.isNone_none, Option.isNone_some, List.isEmpty_nil, Option.isSome_some, true_or, or_true, false_or, or_false, Bool.and_true, Bool.true_and, Bool.or_false, Bool.false_or, Bool.not_true, Bool.not_false, Int.reduceLE, Int.reduceLT, Int.reduceNeg, Int.reduceAdd, Int.reduceMul, Int.reduceSub, Int.reduceToNat, BitVec.reduceOfInt, List.getElem?_cons_zero, List.getElem?_cons_succ, reduceCtorEq, Bool.false_eq_true, List.flatMap_cons, List.flatMap_nil, List.append_nil, List.nil_append, List.cons_append, Option.isSome_none, List.set_cons_zero, List.set_cons_succ, List.getD_cons_zero, List.getD_cons_succ, List.size_toArray, u8_lt, u16_lt, u32_lt, List.map_cons, List.map_nil, List.filterMap_nil, List.filterMap_cons, List.head?_nil, List.head?_cons, List.zip_cons_cons, List.zip_nil_left, List.zip_nil_right, List.any_cons, List.any_nil, List.all_cons, List.all_nil, List.contains_cons, List.contains_nil, Int.toNat_natCast, Int.toNat_zero, BitVec.toNat_ofNat, Nat.reducePow, Nat.reduceMod, toN_add, Nat.zero_add, Nat.add_zero, Nat.mul_one, Nat.zero_mul, zz] <;> rfl)
    (h3 : St.after ⟨e, m, n⟩ dst res = some st1 := by first | exact aft_val rfl | exact aft_none | exact aft_newv rfl | exact aft_updn | exact aft_updv rfl | exact aft_updp rfl | (simp (disch := omega) only [go_sem, List.take_zero, List.take_succ_cons, and_false, false_and, not_false_eq_true, ↓act, ↓restr_eq, ↓ctx_ty, ↓ctx_fn, ↓put_at, ↓purge_at, mapO, lookN, Option.getD_some, Option.map_some, Option.bind_some, List.length_cons, List.length_nil, List.length_append, List.length_set, List.toList_toArray, ↓reduceIte, ↓reduceDIte, Nat.reduceLT, Nat.reduceLeDiff, Nat.reduceAdd, Nat.reduceMul, Nat.reduceSub, Nat.reduceEqDiff, Nat.reduceBEq, beq_self_eq_true, Bool.true_or, Bool.or_true, and_self, and_true, true_and, not_true_eq_false, decide_true, decide_false, decide_eq_true_eq, Option.isNone_none, Option.isNone_some, List.isEmpty_nil, Option.isSome_some, true_or, or_true, false_or, or_false, Bool.and_true, Bool.true_and, Bool.or_false, Bool.false_or, Bool.not_true, Bool.not_false, Int.reduceLE, Int.reduceLT, Int.reduceNeg, Int.reduceAdd, Int.reduceMul, Int.reduceSub, Int.reduceToNat, BitVec.reduceOfInt, List.getElem?_cons_zero, List.getElem?_cons_succ, reduceCtorEq, Bool.false_eq_true, List.flatMap_cons, List.flatMap_nil, List.append_nil, List.nil_append, List.cons_append, Option.isSome_none, List.set_cons_zero, List.set_cons_succ, List.getD_cons_zero, List.getD_cons_succ, List.size_toArray, u8_lt, u16_lt, u32_lt, List.map_cons, List.map_nil, List.filterMap_nil, List.filterMap_cons, List.head?_nil, List.head?_cons, List.zip_cons_cons, List.zip_nil_left, List.zip_nil_right, List.any_cons, List.any_nil, List.all_cons, List.all_nil, List.contains_cons, List.contains_nil, Int.toNat_natCast, Int.toNat_zero, BitVec.toNat_ofNat, Nat.reducePow, Nat.reduceMod, toN_add, Nat.zero_add, Nat.add_zero, Nat.mul_one, Nat.zero_mul] <;> rfl)) : SWop Γ all e m n dst op ty pos af (some (j, want)) os R :=
  ⟨SW.opY (o := ⟨dst, op, ty, pos, af, some (j, want)⟩) rfl (hx he) hl h1 (h2 he) h3 k⟩
theorem SWop.no {d : Nat} (he : E) (k : SW Γ all ⟨put d (.tup []) e, m, n⟩ os R)
    (hd : dst = some d := by rfl)
    (hx : E → guardB all ⟨e, m, n⟩ j want = some (!want) := by intro zz; simp (disch := omega) only [guardB, List.getElem?_cons_zero, List.getElem?_cons_succ, ↓mapO_opn, ↓mapO_onil, ↓opnd_tmp, ↓opnd_const, ↓opnd_func, ↓opnd_glob, ↓put_at, ↓purge_at, lookN_at, lookN, purge1_val, purge1_none, V.keys, V.keys1, constV, chk_ok, chk_true, ByteArray.size, Option.map_some, argV, List.length_cons, List.length_nil, List.size_toArray, ↓reduceIte, Nat.reduceLT, Nat.reduceLeDiff, Nat.reduceAdd, Nat.reduceEqDiff, Nat.reduceBEq, beq_self_eq_true, Bool.true_or, Bool.or_true, and_self, and_true, true_and, true_or, or_true, false_or, or_false, Bool.or_false, Bool.false_or, Int.reduceLE, Int.reduceLT, Int.reduceNeg, BitVec.reduceOfInt, List.getElem?_cons_zero, List.getElem?_cons_succ, reduceCtorEq, Bool.false_eq_true, List.flatMap_cons, List.flatMap_nil, List.append_nil, List.nil_append, List.cons_append, List.any_cons, List.any_nil, List.contains_cons, List.contains_nil, Bool.not_true, Bool.not_false, zz] <;> rfl)
    (hl : Nat.blt d n = true := by rfl) : SWop Γ all e m n dst op ty pos af (some (j, want)) os R :=
  ⟨SW.no (o := ⟨dst, op, ty, pos, af, some (j, want)⟩) rfl hd (hx he) hl k⟩
theorem SWcall.go (he : E) (k : SW Γ all st1 os R)
    (h1 : mapO (opnd Γ e) l = some args := by simp (disch := omega) only [↓mapO_opn, ↓mapO_onil, ↓opnd_tmp, ↓opnd_const, ↓opnd_func, ↓opnd_glob, ↓put_at, ↓purge_at, lookN_at, lookN, purge1_val, purge1_none, V.keys, V.keys1, constV, chk_ok, chk_true, ByteArray.size, Option.map_some, argV, List.length_cons, List.length_nil, List.size_toArray, ↓reduceIte, Nat.reduceLT, Nat.reduceLeDiff, Nat.reduceAdd, Nat.reduceEqDiff, Nat.reduceBEq, beq_self_eq_true, Bool.true_or, Bool.or_true, and_self, and_true, true_and, true_or, or_true, false_or, or_false, Bool.or_false, Bool.false_or, Int.reduceLE, Int.reduceLT, Int.reduceNeg, BitVec.reduceOfInt, List.getElem?_cons_zero, List.getElem?_cons_succ, reduceCtorEq, Bool.false_eq_true, List.flatMap_cons, List.flatMap_nil, List.append_nil, List.nil_append, List.cons_append, List.any_cons, List.any_nil, List.contains_cons, List.contains_nil, Bool.not_true, Bool.not_false] <;> rfl)
    (hf : Γ.fn g = some sp := by rfl)
    (h2 : E → mapO (inV sp.refSl (restr (args.flatMap V.keys) m)) args = some ins := by intro zz; simp (disch := omega) only [go_sem, List.take_zero, List.take_succ_cons, and_false, false_and, not_false_eq_true, ↓act, ↓restr_eq, ↓ctx_ty, ↓ctx_fn, ↓put_at, ↓purge_at, mapO, lookN, Option.getD_some, Option.map_some, Option.bind_some, List.length_cons, List.length_nil, List.length_append, List.length_set, List.toList_toArray, ↓reduceIte, ↓reduceDIte, Nat.reduceLT, Nat.reduceLeDiff, Nat.reduceAdd, Nat.reduceMul, Nat.reduceSub, Nat.reduceEqDiff, Nat.reduceBEq, beq_self_eq_true, Bool.true_or, Bool.or_true, and_self, and_true, true_and, not_true_eq_false, decide_true, decide_false, decide_eq_true_eq, Option.isNone_none, Option.isNone_some, List.isEmpty_nil, Option.isSome_some, true_or, or_true, false_or, or_false, Bool.and_true, Bool.true_and, Bool.or_false, Bool.false_or, Bool.not_true, Bool.not_false, Int.reduceLE, Int.reduceLT, Int.reduceNeg, Int.reduceAdd, Int.reduceMul, Int.reduceSub, Int.reduceToNat, BitVec.reduceOfInt, List.getElem?_cons_zero, List.getElem?_cons_succ, reduceCtorEq, Bool.false_eq_true, List.flatMap_cons, List.flatMap_nil, List.append_nil, List.nil_append, List.cons_append, Option.isSome_none, List.set_cons_zero, List.set_cons_succ, List.getD_cons_zero, List.getD_cons_succ, List.size_toArray, u8_lt, u16_lt, u32_lt, List.map_cons, List.map_nil, List.filterMap_nil, List.filterMap_cons, List.head?_nil, List.head?_cons, List.zip_cons_cons, List.zip_nil_left, List.zip_nil_right, List.any_cons, List.any_nil, List.all_cons, List.all_nil, List.contains_cons, List.contains_nil, Int.toNat_natCast, Int.toNat_zero, BitVec.toNat_ofNat, Nat.reducePow, Nat.reduceMod, toN_add, Nat.zero_add, Nat.add_zero, Nat.mul_one, Nat.zero_mul, zz] <;> rfl)
    (h3 : E → sp.run ins = some (ret, outs) := by intro zz; first | rfl | exact chk_ok (by omega) | (simp (disch := omega) only [go_sem, List.take_zero, List.take_succ_cons, and_false, false_and, not_false_eq_true, ↓act, ↓restr_eq, ↓ctx_ty, ↓ctx_fn, ↓put_at, ↓purge_at, mapO, lookN, Option.getD_some, Option.map_some, Option.bind_some, List.length_cons, List.length_nil, List.length_append, List.length_set, List.toList_toArray, ↓reduceIte, ↓reduceDIte, Nat.reduceLT, Nat.reduceLeDiff, Nat.reduceAdd, Nat.reduceMul, Nat.reduceSub, Nat.reduceEqDiff, Nat.reduceBEq, beq_self_eq_true, Bool.true_or, Bool.or_true, and_self, and_true, true_and, not_true_eq_false, decide_true, decide_false, decide_eq_true_eq, Option.isNone_none, Option.isNone_some, List.isEmpty_nil, Option.isSome_some, true_or, or_true, false_or, or_false, Bool.and_true, Bool.true_and, Bool.or_false, Bool.false_or, Bool.not_true, Bool.not_false, Int.reduceLE, Int.reduceLT, Int.reduceNeg, Int.reduceAdd, Int.reduceMul, Int.reduceSub, Int.reduceToNat, BitVec.reduceOfInt, List.getElem?_cons_zero, List.getElem?_cons_succ, reduceCtorEq, Bool.false_eq_true, List.flatMap_cons, List.flatMap_nil, List.append_nil, List.nil_append, List.cons_append, Option.isSome_none, List.set_cons_zero, List.set_cons_succ, List.getD_cons_zero, List.getD_cons_succ, List.size_toArray, u8_lt, u16_lt, u32_lt, List.map_cons, List.map_nil, List.filterMap_nil, List.filterMap_cons, List.head?_nil, List.head?_cons, List.zip_cons_cons, List.zip_nil_left, List.zip_nil_right, List.any_cons, List.any_nil, List.all_cons, List.all_nil, List.contains_cons, List.contains_nil, Int.toNat_natCast, Int.toNat_zero, BitVec.toNat_ofNat, Nat.reducePow, Nat.reduceMod, toN_add, Nat.zero_add, Nat.add_zero, Nat.mul_one, Nat.zero_mul, zz] <;> rfl))
    (h4 : CallOK sp.refSl args ret outs := by refine ⟨rfl, rfl, rfl, ?_, rfl, rfl, rfl⟩; first | exact .inl rfl | exact .inr rfl)
    (h5 : callRes sp.refSl (dst.getD 0) args ret outs = res := by simp (disch := omega) only [go_sem, List.take_zero, List.take_succ_cons, and_false, false_and, not_false_eq_true, ↓act, ↓restr_eq, ↓ctx_ty, ↓ctx_fn, ↓put_at, ↓purge_at, mapO, lookN, Option.getD_some, Option.map_some, Option.bind_some, List.length_cons, List.length_nil, List.length_append, List.length_set, List.toList_toArray, ↓reduceIte, ↓reduceDIte, Nat.reduceLT, Nat.reduceLeDiff, Nat.reduceAdd, Nat.reduceMul, Nat.reduceSub, Nat.reduceEqDiff, Nat.reduceBEq, beq_self_eq_true, Bool.true_or, Bool.or_true, and_self, and_true, true_and, not_true_eq_false, decide_true, decide_false, decide_eq_true_eq, Option.isNone_none, Option.isNone_some, List.isEmpty_nil, Option.isSome_some, true_or, or_true, false_or, or_false, Bool.and_true, Bool.true_and, Bool.or_false, Bool.false_or, Bool.not_true, Bool.not_false, Int.reduceLE, Int.reduceLT, Int.reduceNeg, Int.reduceAdd, Int.reduceMul, Int.reduceSub, Int.reduceToNat, BitVec.reduceOfInt, List.getElem?_cons_zero, List.getElem?_cons_succ, reduceCtorEq, Bool.false_eq_true, List.flatMap_cons, List.flatMap_nil, List.append_nil, List.nil_append, List.cons_append, Option.isSome_none, List.set_cons_zero, List.set_cons_succ, List.getD_cons_zero, List.getD_cons_succ, List.size_toArray, u8_lt, u16_lt, u32_lt, List.map_cons, List.map_nil, List.filterMap_nil, List.filterMap_cons, List.head?_nil, List.head?_cons, List.zip_cons_cons, List.zip_nil_left, List.zip_nil_right, List.any_cons, List.any_nil, List.all_cons, List.all_nil, List.contains_cons, List.contains_nil, Int.toNat_natCast, Int.toNat_zero, BitVec.toNat_ofNat, Nat.reducePow, Nat.reduceMod, toN_add, Nat.zero_add, Nat.add_zero, Nat.mul_one, Nat.zero_mul] <;> rfl)
    (h6 : St.after ⟨e, m, n⟩ dst res = some st1 := by first | exact aft_val rfl | exact aft_none | exact aft_newv rfl | exact aft_updn | exact aft_updv rfl | exact aft_updp rfl | (simp (disch := omega) only [go_sem, List.take_zero, List.take_succ_cons, and_false, false_and, not_false_eq_true, ↓act, ↓restr_eq, ↓ctx_ty, ↓ctx_fn, ↓put_at, ↓purge_at, mapO, lookN, Option.getD_some, Option.map_some, Option.bind_some, List.length_cons, List.length_nil, List.length_append, List.length_set, List.toList_toArray, ↓reduceIte, ↓reduceDIte, Nat.reduceLT, Nat.reduceLeDiff, Nat.reduceAdd, Nat.reduceMul, Nat.reduceSub, Nat.reduceEqDiff, Nat.reduceBEq, beq_self_eq_true, Bool.true_or, Bool.or_true, and_self, and_true, true_and, not_true_eq_false, decide_true, decide_false, decide_eq_true_eq, Option.isNone_none, Option.isNone_some, List.isEmpty_nil, Option.isSome_some, true_or, or_true, false_or, or_false, Bool.and_true, Bool.true_and, Bool.or_false, Bool.false_or, Bool.not_true, Bool.not_false, Int.reduceLE, Int.reduceLT, Int.reduceNeg, Int.reduceAdd, Int.reduceMul, Int.reduceSub, Int.reduceToNat, BitVec.reduceOfInt, List.getElem?_cons_zero, List.getElem?_cons_succ, reduceCtorEq, Bool.false_eq_true, List.flatMap_cons, List.flatMap_nil, List.append_nil, List.nil_append, List.cons_append, Option.isSome_none, List.set_cons_zero, List.set_cons_succ, List.getD_cons_zero, List.getD_cons_succ, List.size_toArray, u8_lt, u16_lt, u32_lt, List.map_cons, List.map_nil, List.filterMap_nil, List.filterMap_cons, List.head?_nil, List.head?_cons, List.zip_cons_cons, List.zip_nil_left, List.zip_nil_right, List.any_cons, List.any_nil, List.all_cons, List.all_nil, List.contains_cons, List.contains_nil, Int.toNat_natCast, Int.toNat_zero, BitVec.toNat_ofNat, Nat.reducePow, Nat.reduceMod, toN_add, Nat.zero_add, Nat.add_zero, Nat.mul_one, Nat.zero_mul] <;> rfl)) : SWcall Γ all e m n dst g l ts ty pos af none os R :=
  ⟨SW.callA h1 hf (h2 he) (h3 he) h4 h5 h6 k⟩
theorem SWcall.yes (he : E) (k : SW Γ all st1 os R)
    (hx : E → guardB all ⟨e, m, n⟩ j want = some want := by intro zz; simp (disch := omega) only [guardB, List.getElem?_cons_zero, List.getElem?_cons_succ, ↓mapO_opn, ↓mapO_onil, ↓opnd_tmp, ↓opnd_const, ↓opnd_func, ↓opnd_glob, ↓put_at, ↓purge_at, lookN_at, lookN, purge1_val, purge1_none, V.keys, V.keys1, constV, chk_ok, chk_true, ByteArray.size, Option.map_some, argV, List.length_cons, List.length_nil, List.size_toArray, ↓reduceIte, Nat.reduceLT, Nat.reduceLeDiff, Nat.reduceAdd, Nat.reduceEqDiff, Nat.reduceBEq, beq_self_eq_true, Bool.true_or, Bool.or_true, and_self, and_true, true_and, true_or, or_true, false_or, or_false, Bool.or_false, Bool.false_or, Int.reduceLE, Int.reduceLT, Int.reduceNeg, BitVec.reduceOfInt, List.getElem?_cons_zero, List.getElem?_cons_succ, reduceCtorEq, Bool.false_eq_true, List.flatMap_cons, List.flatMap_nil, List.append_nil, List.nil_append, List.cons_append, List.any_cons, List.any_nil, List.contains_cons, List.contains_nil, Bool.not_true, Bool.not_false, zz] <;> rfl)
    (h1 : mapO (opnd Γ e) l = some args := by simp (disch := omega) only [↓mapO_opn, ↓mapO_onil, ↓opnd_tmp, ↓opnd_const, ↓opnd_func, ↓opnd_glob, ↓put_at, ↓purge_at, lookN_at, lookN, purge1_val, purge1_none, V.keys, V.keys1, constV, chk_ok, chk_true, ByteArray.size, Option.map_some, argV, List.length_cons, List.length_nil, List.size_toArray, ↓reduceIte, Nat.reduceLT, Nat.reduceLeDiff, Nat.reduceAdd, Nat.reduceEqDiff, Nat.reduceBEq, beq_self_eq_true, Bool.true_or, Bool.or_true, and_self, and_true, true_and, true_or, or_true, false_or, or_false, Bool.or_false, Bool.false_or, Int.reduceLE, Int.reduceLT, Int.reduceNeg, BitVec.reduceOfInt, List.getElem?_cons_zero, List.getElem?_cons_succ, reduceCtorEq, Bool.false_eq_true, List.flatMap_cons, List.flatMap_nil, List.append_nil, List.nil_append, List.cons_append, List.any_cons, List.any_nil, List.contains_cons, List.contains_nil, Bool.not_true, Bool.not_false] <;> rfl)
    (hf : Γ.fn g = some sp := by rfl)
    (h2 : E → mapO (inV sp.refSl (restr (args.flatMap V.keys) m)) args = some ins := by intro zz; simp (disch := omega) only [go_sem, List.take_zero, List.take_succ_cons, and_false, false_and, not_false_eq_true, ↓act, ↓restr_eq, ↓ctx_ty, ↓ctx_fn, ↓put_at, ↓purge_at, mapO, lookN, Option.getD_some, Option.map_some, Option.bind_some, List.length_cons, List.length_nil, List.length_append, List.length_set, List.toList_toArray, ↓reduceIte, ↓reduceDIte, Nat.reduceLT, Nat.reduceLeDiff, Nat.reduceAdd, Nat.reduceMul, Nat.reduceSub, Nat.reduceEqDiff, Nat.reduceBEq, beq_self_eq_true, Bool.true_or, Bool.or_true, and_self, and_true, true_and, not_true_eq_false, decide_true, decide_false, decide_eq_true_eq, Option.isNone_none, Option.isNone_some, List.isEmpty_nil, Option.isSome_some, true_or, or_true, false_or, or_false, Bool.and_true, Bool.true_and, Bool.or_false, Bool.false_or, Bool.not_true, Bool.not_false, Int.reduceLE, Int.reduceLT, Int.reduceNeg, Int.reduceAdd, Int.reduceMul, Int.reduceSub, Int.reduceToNat, BitVec.reduceOfInt, List.getElem?_cons_zero, List.getElem?_cons_succ, reduceCtorEq, Bool.false_eq_true, List.flatMap_cons, List.flatMap_nil, List.append_nil, List.nil_append, List.cons_append, Option.isSome_none, List.set_cons_zero, List.set_cons_succ, List.getD_cons_zero, List.getD_cons_succ, List.size_toArray, u8_lt, u16_lt, u32_lt, List.map_cons, List.map_nil, List.filterMap_nil, List.filterMap_cons, List.head?_nil, List.head?_cons, List.zip_cons_cons, List.zip_nil_left, List.zip_nil_right, List.any_cons, List.any_nil, List.all_cons, List.all_nil, List.contains_cons, List.contains_nil, Int.toNat_natCast, Int.toNat_zero, BitVec.toNat_ofNat, Nat.reducePow, Nat.reduceMod, toN_add, Nat.zero_add, Nat.add_zero, Nat.mul_one, Nat.zero_mul, zz] <;> rfl)
    (h3 : E → sp.run ins = some (ret, outs) := by intro zz; first | rfl | exact chk_ok (by omega) | (simp (disch := omega) only [go_sem, List.take_zero, List.take_succ_cons, and_false, false_and, not_false_eq_true, ↓act, ↓restr_eq, ↓ctx_ty, ↓ctx_fn, ↓put_at, ↓purge_at, mapO, lookN, Option.getD_some, Option.map_some, Option.bind_some, List.length_cons, List.length_nil, List.length_append, List.length_set, List.toList_toArray, ↓reduceIte, ↓reduceDIte, Nat.reduceLT, Nat.reduceLeDiff, Nat.reduceAdd, Nat.reduceMul, Nat.reduceSub, Nat.reduceEqDiff, Nat.reduceBEq, beq_self_eq_true, Bool.true_or, Bool.or_true, and_self, and_true, true_and, not_true_eq_false, decide_true, decide_false, decide_eq_true_eq, Option.isNone_none, Option.isNone_some, List.isEmpty_nil, Option.isSome_some, true_or, or_true, false_or, or_false, Bool.and_true, Bool.true_and, Bool.or_false, Bool.false_or, Bool.not_true, Bool.not_false, Int.reduceLE, Int.reduceLT, Int.reduceNeg, Int.reduceAdd, Int.reduceMul, Int.reduceSub, Int.reduceToNat, BitVec.reduceOfInt, List.getElem?_cons_zero, List.getElem?_cons_succ, reduceCtorEq, Bool.false_eq_true, List.flatMap_cons, List.flatMap_nil, List.append_nil, List.nil_append, List.cons_append, Option.isSome_none, List.set_cons_zero, List.set_cons_succ, List.getD_cons_zero, List.getD_cons_succ, List.size_toArray, u8_lt, u16_lt, u32_lt, List.map_cons, List.map_nil, List.filterMap_nil, List.filterMap_cons, List.head?_nil, List.head?_cons, List.zip_cons_cons, List.zip_nil_left, List.zip_nil_right, List.any_cons, List.any_nil, List.all_cons, List.all_nil, List.contains_cons, List.contains_nil, Int.toNat_natCast, Int.toNat_zero, BitVec.toNat_ofNat, Nat.reducePow, Nat.reduceMod, toN_add, Nat.zero_add, Nat.add_zero, Nat.mul_one, Nat.zero_mul, zz] <;> rfl))
    (h4 : CallOK sp.refSl args ret outs := by refine ⟨rfl, rfl, rfl, ?_, rfl, rfl, rfl⟩; first | exact .inl rfl | exact .inr rfl)
    (h5 : callRes sp.refSl (dst.getD 0) args ret outs = res := by simp (disch := omega) only [go_sem, List.take_zero, List.take_succ_cons, and_false, false_and, not_false_eq_true, ↓act, ↓restr_eq, ↓ctx_ty, ↓ctx_fn, ↓put_at, ↓purge_at, mapO, lookN, Option.getD_some, Option.map_some, Option.bind_some, List.length_cons, List.length_nil, List.length_append, List.length_set, List.toList_toArray, ↓reduceIte, ↓reduceDIte, Nat.reduceLT, Nat.reduceLeDiff, Nat.reduceAdd, Nat.reduceMul, Nat.reduceSub, Nat.reduceEqDiff, Nat.reduceBEq, beq_self_eq_true, Bool.true_or, Bool.or_true, and_self, and_true, true_and, not_true_eq_false, decide_true, decide_false, decide_eq_true_eq, Option.isNone_none, Option.isNone_some, List.isEmpty_nil, Option.isSome_some, true_or, or_true, false_or, or_false, Bool.and_true, Bool.true_and, Bool.or_false, Bool.false_or, Bool.not_true, Bool.not_false, Int.reduceLE, Int.reduceLT, Int.reduceNeg, Int.reduceAdd, Int.reduceMul, Int.reduceSub, Int.reduceToNat, BitVec.reduceOfInt, List.getElem?_cons_zero, List.getElem?_cons_succ, reduceCtorEq, Bool.false_eq_true, List.flatMap_cons, List.flatMap_nil, List.append_nil, List.nil_append, List.cons_append, Option.isSome_none, List.set_cons_zero, List.set_cons_succ, List.getD_cons_zero, List.getD_cons_succ, List.size_toArray, u8_lt, u16_lt, u32_lt, List.map_cons, List.map_nil, List.filterMap_nil, List.filterMap_cons, List.head?_nil, List.head?_cons, List.zip_cons_cons, List.zip_nil_left, List.zip_nil_right, List.any_cons, List.any_nil, List.all_cons, List.all_nil, List.contains_cons, List.contains_nil, Int.toNat_natCast, Int.toNat_zero, BitVec.toNat_ofNat, Nat.reducePow, Nat.reduceMod, toN_add, Nat.zero_add, Nat.add_zero, Nat.mul_one, Nat.zero_mul] <;> rfl)
    (h6 : St.after ⟨e, m, n⟩ dst res = some st1 := by first | exact aft_val rfl | exact aft_none | exact aft_newv rfl | exact aft_updn | exact aft_updv rfl | exact aft_updp rfl | (simp (disch := omega) only [go_sem, List.take_zero, List.take_succ_cons, and_false, false_and, not_false_eq_true, ↓act, ↓restr_eq, ↓ctx_ty, ↓ctx_fn, ↓put_at, ↓purge_at, mapO, lookN, Option.getD_some, Option.map_some, Option.bind_some, List.length_cons, List.length_nil, List.length_append, List.length_set, List.toList_toArray, ↓reduceIte, ↓reduceDIte, Nat.reduceLT, Nat.reduceLeDiff, Nat.reduceAdd, Nat.reduceMul, Nat.reduceSub, Nat.reduceEqDiff, Nat.reduceBEq, beq_self_eq_true, Bool.true_or, Bool.or_true, and_self, and_true, true_and, not_true_eq_false, decide_true, decide_false, decide_eq_true_eq, Option.isNone_none, Option.isNone_some, List.isEmpty_nil, Option.isSome_some, true_or, or_true, false_or, or_false, Bool.and_true, Bool.true_and, Bool.or_false, Bool.false_or, Bool.not_true, Bool.not_false, Int.reduceLE, Int.reduceLT, Int.reduceNeg, Int.reduceAdd, Int.reduceMul, Int.reduceSub, Int.reduceToNat, BitVec.reduceOfInt, List.getElem?_cons_zero, List.getElem?_cons_succ, reduceCtorEq, Bool.false_eq_true, List.flatMap_cons, List.flatMap_nil, List.append_nil, List.nil_append, List.cons_append, Option.isSome_none, List.set_cons_zero, List.set_cons_succ, List.getD_cons_zero, List.getD_cons_succ, List.size_toArray, u8_lt, u16_lt, u32_lt, List.map_cons, List.map_nil, List.filterMap_nil, List.filterMap_cons, List.head?_nil, List.head?_cons, List.zip_cons_cons, List.zip_nil_left, List.zip_nil_right, List.any_cons, List.any_nil, List.all_cons, List.all_nil, List.contains_cons, List.contains_nil, Int.toNat_natCast, Int.toNat_zero, BitVec.toNat_ofNat, Nat.reducePow, Nat.reduceMod, toN_add, Nat.zero_add, Nat.add_zero, Nat.mul_one, Nat.zero_mul] <;> rfl)) : SWcall Γ all e m n dst g l ts ty pos af (some (j, want)) os R :=
  ⟨SW.callAY (hx he) h1 hf (h2 he) (h3 he) h4 h5 h6 k⟩
theorem SWcall.no {d : Nat} (he : E) (k : SW Γ all ⟨put d (.tup []) e, m, n⟩ os R)
    (hd : dst = some d := by rfl)
    (hx : E → guardB all ⟨e, m, n⟩ j want = some (!want) := by intro zz; simp (disch := omega) only [guardB, List.getElem?_cons_zero, List.getElem?_cons_succ, ↓mapO_opn, ↓mapO_onil, ↓opnd_tmp, ↓opnd_const, ↓opnd_func, ↓opnd_glob, ↓put_at, ↓purge_at, lookN_at, lookN, purge1_val, purge1_none, V.keys, V.keys1, constV, chk_ok, chk_true, ByteArray.size, Option.map_some, argV, List.length_cons, List.length_nil, List.size_toArray, ↓reduceIte, Nat.reduceLT, Nat.reduceLeDiff, Nat.reduceAdd, Nat.reduceEqDiff, Nat.reduceBEq, beq_self_eq_true, Bool.true_or, Bool.or_true, and_self, and_true, true_and, true_or, or_true, false_or, or_false, Bool.or_false, Bool.false_or, Int.reduceLE, Int.reduceLT, Int.reduceNeg, BitVec.reduceOfInt, List.getElem?_cons_zero, List.getElem?_cons_succ, reduceCtorEq, Bool.false_eq_true, List.flatMap_cons, List.flatMap_nil, List.append_nil, List.nil_append, List.cons_append, List.any_cons, List.any_nil, List.contains_cons, List.contains_nil, Bool.not_true, Bool.not_false, zz] <;> rfl)
    (hl : Nat.blt d n = true := by rfl) : SWcall Γ all e m n dst g l ts ty pos af (some (j, want)) os R :=
  ⟨SW.no (o := ⟨dst, .call { callee := .value (.func g), args := List.toArray l, argTypes := ts }, ty, pos, af, some (j, want)⟩) rfl hd (hx he) hl k⟩

/-- the same in a drawn region -/
structure DWop (Γ : Ctx) (ops : Array Oper) (A : List (List Nat)) (fs : List Foot) (e m : Nat → Option V) (n : Nat) (dst : Option Nat) (op : Op) (ty : TypeId) (pos : String) (af : Array Edge) (gd : Option (Nat × Bool)) (os : List Oper) (R : St → Prop) : Prop where
  out : DW Γ ops A fs ⟨e, m, n⟩ (⟨dst, op, ty, pos, af, gd⟩ :: os) R
theorem DW.toOp (h : DWop Γ ops A fs e m n dst op ty pos af none os R) : DW Γ ops A fs ⟨e, m, n⟩ (⟨dst, op, ty, pos, af, none⟩ :: os) R := h.out
theorem DW.toG (h : DWop Γ ops A fs e m n dst op ty pos af (some (j, want)) os R) : DW Γ ops A fs ⟨e, m, n⟩ (⟨dst, op, ty, pos, af, some (j, want)⟩ :: os) R := h.out
structure DWcall (Γ : Ctx) (ops : Array Oper) (A : List (List Nat)) (fs : List Foot) (e m : Nat → Option V) (n : Nat) (dst : Option Nat) (g : Nat) (l : List Operand) (ts : Array TypeId) (ty : TypeId) (pos : String) (af : Array Edge) (gd : Option (Nat × Bool)) (os : List Oper) (R : St → Prop) : Prop where
  out : DW Γ ops A fs ⟨e, m, n⟩ (⟨dst, .call { callee := .value (.func g), args := List.toArray l, argTypes := ts }, ty, pos, af, gd⟩ :: os) R
theorem DW.toC (h : DWcall Γ ops A fs e m n dst g l ts ty pos af none os R) : DW Γ ops A fs ⟨e, m, n⟩ (⟨dst, .call { callee := .value (.func g), args := List.toArray l, argTypes := ts }, ty, pos, af, none⟩ :: os) R := h.out
theorem DW.toCG (h : DWcall Γ ops A fs e m n dst g l ts ty pos af (some (j, want)) os R) : DW Γ ops A fs ⟨e, m, n⟩ (⟨dst, .call { callee := .value (.func g), args := List.toArray l, argTypes := ts }, ty, pos, af, some (j, want)⟩ :: os) R := h.out

theorem DWop.go (he : E) (k : DW Γ ops A (f :: fs) st1 os R)
    (hl : op.operands.toList = l := by simp only [opl_000, opl_100, opl_010, opl_110, opl_001, opl_101, opl_011, opl_111, Op.operands, opnds_builtin, List.toList_toArray, List.map_cons, List.map_nil, Option.toArray_some, Option.toArray_none, List.append_toArray, List.cons_append, List.nil_append, List.append_nil, List.toArray_appendList] <;> rfl)
    (h1 : mapO (opnd Γ e) l = some args := by simp (disch := omega) only [↓mapO_opn, ↓mapO_onil, ↓opnd_tmp, ↓opnd_const, ↓opnd_func, ↓opnd_glob, ↓put_at, ↓purge_at, lookN_at, lookN, purge1_val, purge1_none, V.keys, V.keys1, constV, chk_ok, chk_true, ByteArray.size, Option.map_some, argV, List.length_cons, List.length_nil, List.size_toArray, ↓reduceIte, Nat.reduceLT, Nat.reduceLeDiff, Nat.reduceAdd, Nat.reduceEqDiff, Nat.reduceBEq, beq_self_eq_true, Bool.true_or, Bool.or_true, and_self, and_true, true_and, true_or, or_true, false_or, or_false, Bool.or_false, Bool.false_or, Int.reduceLE, Int.reduceLT, Int.reduceNeg, BitVec.reduceOfInt, List.getElem?_cons_zero, List.getElem?_cons_succ, reduceCtorEq, Bool.false_eq_true, List.flatMap_cons, List.flatMap_nil, List.append_nil, List.nil_append, List.cons_append, List.any_cons, List.any_nil, List.contains_cons, List.contains_nil, Bool.not_true, Bool.not_false] <;> rfl)
    (h2 : E → act Γ (restr (args.flatMap V.keys) m) (dst.getD 0) op args = some res := by intro zz; simp (disch := omega) only [go_sem, List.take_zero, List.take_succ_cons, and_false, false_and, not_false_eq_true, ↓act, ↓restr_eq, ↓ctx_ty, ↓ctx_fn, ↓put_at, ↓purge_at, mapO, lookN, Option.getD_some, Option.map_some, Option.bind_some, List.length_cons, List.length_nil, List.length_append, List.length_set, List.toList_toArray, ↓reduceIte, ↓reduceDIte, Nat.reduceLT, Nat.reduceLeDiff, Nat.reduceAdd, Nat.reduceMul, Nat.reduceSub, Nat.reduceEqDiff, Nat.reduceBEq, beq_self_eq_true, Bool.true_or, Bool.or_true, and_self, and_true, true_and, not_true_eq_false, decide_true, decide_false, decide_eq_true_eq, Option.isNone_none, Option.isNone_some, List.isEmpty_nil, Option.isSome_some, true_or, or_true, false_or, or_false, Bool.and_true, Bool.true_and, Bool.or_false, Bool.false_or, Bool.not_true, Bool.not_false, Int.reduceLE, Int.reduceLT, Int.reduceNeg, Int.reduceAdd, Int.reduceMul, Int.reduceSub, Int.reduceToNat, BitVec.reduceOfInt, List.getElem?_cons_zero, List.getElem?_cons_succ, reduceCtorEq, Bool.false_eq_true, List.flatMap_cons, List.flatMap_nil, List.append_nil, List.nil_append, List.cons_append, Option.isSome_none, List.set_cons_zero, List.set_cons_succ, List.getD_cons_zero, List.getD_cons_succ, List.size_toArray, u8_lt, u16_lt, u32_lt, List.map_cons, List.map_nil, List.filterMap_nil, List.filterMap_cons, List.head?_nil, List.head?_cons, List.zip_cons_cons, List.zip_nil_left, List.zip_nil_right, List.any_cons, List.any_nil, List.all_cons, List.all_nil, List.contains_cons, List.contains_nil, Int.toNat_natCast, Int.toNat_zero, BitVec.toNat_ofNat, Nat.reducePow, Nat.reduceMod, toN_add, Nat.zero_add, Nat.add_zero, Nat.mul_one, Nat.zero_mul, zz] <;> rfl)
    (h3 : keysAtO op m (args.flatMap V.keys) = some ck := by first | exact kO_move | exact kO_else rfl (by simp (disch := omega) only [go_sem, List.take_zero, List.take_succ_cons, and_false, false_and, not_false_eq_true, ↓act, ↓restr_eq, ↓ctx_ty, ↓ctx_fn, ↓put_at, ↓purge_at, mapO, lookN, Option.getD_some, Option.map_some, Option.bind_some, List.length_cons, List.length_nil, List.length_append, List.length_set, List.toList_toArray, ↓reduceIte, ↓reduceDIte, Nat.reduceLT, Nat.reduceLeDiff, Nat.reduceAdd, Nat.reduceMul, Nat.reduceSub, Nat.reduceEqDiff, Nat.reduceBEq, beq_self_eq_true, Bool.true_or, Bool.or_true, and_self, and_true, true_and, not_true_eq_false, decide_true, decide_false, decide_eq_true_eq, Option.isNone_none, Option.isNone_some, List.isEmpty_nil, Option.isSome_some, true_or, or_true, false_or, or_false, Bool.and_true, Bool.true_and, Bool.or_false, Bool.false_or, Bool.not_true, Bool.not_false, Int.reduceLE, Int.reduceLT, Int.reduceNeg, Int.reduceAdd, Int.reduceMul, Int.reduceSub, Int.reduceToNat, BitVec.reduceOfInt, List.getElem?_cons_zero, List.getElem?_cons_succ, reduceCtorEq, Bool.false_eq_true, List.flatMap_cons, List.flatMap_nil, List.append_nil, List.nil_append, List.cons_append, Option.isSome_none, List.set_cons_zero, List.set_cons_succ, List.getD_cons_zero, List.getD_cons_succ, List.size_toArray, u8_lt, u16_lt, u32_lt, List.map_cons, List.map_nil, List.filterMap_nil, List.filterMap_cons, List.head?_nil, List.head?_cons, List.zip_cons_cons, List.zip_nil_left, List.zip_nil_right, List.any_cons, List.any_nil, List.all_cons, List.all_nil, List.contains_cons, List.contains_nil, Int.toNat_natCast, Int.toNat_zero, BitVec.toNat_ofNat, Nat.reducePow, Nat.reduceMod, toN_add, Nat.zero_add, Nat.add_zero, Nat.mul_one, Nat.zero_mul] <;> rfl))
    (h4 : dstOK n dst res = true := by rfl)
    (h5 : St.after ⟨e, m, n⟩ dst res = some st1 := by first | exact aft_val rfl | exact aft_none | exact aft_newv rfl | exact aft_updn | exact aft_updv rfl | exact aft_updp rfl | (simp (disch := omega) only [go_sem, List.take_zero, List.take_succ_cons, and_false, false_and, not_false_eq_true, ↓act, ↓restr_eq, ↓ctx_ty, ↓ctx_fn, ↓put_at, ↓purge_at, mapO, lookN, Option.getD_some, Option.map_some, Option.bind_some, List.length_cons, List.length_nil, List.length_append, List.length_set, List.toList_toArray, ↓reduceIte, ↓reduceDIte, Nat.reduceLT, Nat.reduceLeDiff, Nat.reduceAdd, Nat.reduceMul, Nat.reduceSub, Nat.reduceEqDiff, Nat.reduceBEq, beq_self_eq_true, Bool.true_or, Bool.or_true, and_self, and_true, true_and, not_true_eq_false, decide_true, decide_false, decide_eq_true_eq, Option.isNone_none, Option.isNone_some, List.isEmpty_nil, Option.isSome_some, true_or, or_true, false_or, or_false, Bool.and_true, Bool.true_and, Bool.or_false, Bool.false_or, Bool.not_true, Bool.not_false, Int.reduceLE, Int.reduceLT, Int.reduceNeg, Int.reduceAdd, Int.reduceMul, Int.reduceSub, Int.reduceToNat, BitVec.reduceOfInt, List.getElem?_cons_zero, List.getElem?_cons_succ, reduceCtorEq, Bool.false_eq_true, List.flatMap_cons, List.flatMap_nil, List.append_nil, List.nil_append, List.cons_append, Option.isSome_none, List.set_cons_zero, List.set_cons_succ, List.getD_cons_zero, List.getD_cons_succ, List.size_toArray, u8_lt, u16_lt, u32_lt, List.map_cons, List.map_nil, List.filterMap_nil, List.filterMap_cons, List.head?_nil, List.head?_cons, List.zip_cons_cons, List.zip_nil_left, List.zip_nil_right, List.any_cons, List.any_nil, List.all_cons, List.all_nil, List.contains_cons, List.contains_nil, Int.toNat_natCast, Int.toNat_zero, BitVec.toNat_ofNat, Nat.reducePow, Nat.reduceMod, toN_add, Nat.zero_add, Nat.add_zero, Nat.mul_one, Nat.zero_mul] <;> rfl))
    (h6 : ({ ev := { dst := dst, res := res }, rk := args.flatMap V.keys, ck := ck } : Rec).foot = f := by simp only [Rec.foot, Ev.app, purgeIf_nil, purgeIf_cons, updM_nil, updM_cons, newM_none, newM_some, V.keys, V.keys1, List.map_cons, List.map_nil, List.filterMap_nil, List.filterMap_cons, List.head?_nil, List.head?_cons, List.flatMap_cons, List.flatMap_nil, List.append_nil, List.nil_append, List.cons_append] <;> rfl) : DWop Γ ops A fs e m n dst op ty pos af none os R :=
  ⟨DW.opA (o := ⟨dst, op, ty, pos, af, none⟩) rfl hl h1 (h2 he) h3 h4 h5 h6 k⟩
theorem DWop.yes (he : E) (k : DW Γ ops A (f :: fs) st1 os R)
    (hx : E → guardB ops.toList ⟨e, m, n⟩ j want = some want := by intro zz; simp (disch := omega) only [guardB, List.getElem?_cons_zero, List.getElem?_cons_succ, ↓mapO_opn, ↓mapO_onil, ↓opnd_tmp, ↓opnd_const, ↓opnd_func, ↓opnd_glob, ↓put_at, ↓purge_at, lookN_at, lookN, purge1_val, purge1_none, V.keys, V.keys1, constV, chk_ok, chk_true, ByteArray.size, Option.map_some, argV, List.length_cons, List.length_nil, List.size_toArray, ↓reduceIte, Nat.reduceLT, Nat.reduceLeDiff, Nat.reduceAdd, Nat.reduceEqDiff, Nat.reduceBEq, beq_self_eq_true, Bool.true_or, Bool.or_true, and_self, and_true, true_and, true_or, or_true, false_or, or_false, Bool.or_false, Bool.false_or, Int.reduceLE, Int.reduceLT, Int.reduceNeg, BitVec.reduceOfInt, List.getElem?_cons_zero, List.getElem?_cons_succ, reduceCtorEq, Bool.false_eq_true, List.flatMap_cons, List.flatMap_nil, List.append_nil, List.nil_append, List.cons_append, List.any_cons, List.any_nil, List.contains_cons, List.contains_nil, Bool.not_true, Bool.not_false, zz] <;> rfl)
    (hl : op.operands.toList = l := by simp only [opl_000, opl_100, opl_010, opl_110, opl_001, opl_101, opl_011, opl_111, Op.operands, opnds_builtin, List.toList_toArray, List.map_cons, List.map_nil, Option.toArray_some, Option.toArray_none, List.append_toArray, List.cons_append, List.nil_append, List.append_nil, List.toArray_appendList] <;> rfl)
    (h1 : mapO (opnd Γ e) l = some args := by simp (disch := omega) only [↓mapO_opn, ↓mapO_onil, ↓opnd_tmp, ↓opnd_const, ↓opnd_func, ↓opnd_glob, ↓put_at, ↓purge_at, lookN_at, lookN, purge1_val, purge1_none, V.keys, V.keys1, constV, chk_ok, chk_true, ByteArray.size, Option.map_some, argV, List.length_cons, List.length_nil, List.size_toArray, ↓reduceIte, Nat.reduceLT, Nat.reduceLeDiff, Nat.reduceAdd, Nat.reduceEqDiff, Nat.reduceBEq, beq_self_eq_true, Bool.true_or, Bool.or_true, and_self, and_true, true_and, true_or, or_true, false_or, or_false, Bool.or_false, Bool.false_or, Int.reduceLE, Int.reduceLT, Int.reduceNeg, BitVec.reduceOfInt, List.getElem?_cons_zero, List.getElem?_cons_succ, reduceCtorEq, Bool.false_eq_true, List.flatMap_cons, List.flatMap_nil, List.append_nil, List.nil_append, List.cons_append, List.any_cons, List.any_nil, List.contains_cons, List.contains_nil, Bool.not_true, Bool.not_false] <;> rfl)
    (h2 : E → act Γ (restr (args.flatMap V.keys) m) (dst.getD 0) op args = some res := by intro zz; simp (disch := omega) only [go_sem, List.take_zero, List.take_succ_cons, and_false, false_and, not_false_eq_true, ↓act, ↓restr_eq, ↓ctx_ty, ↓ctx_fn, ↓put_at, ↓purge_at, mapO, lookN, Option.getD_some, Option.map_some, Option.bind_some, List.length_cons, List.length_nil, List.length_append, List.length_set, List.toList_toArray, ↓reduceIte, ↓reduceDIte, Nat.reduceLT, Nat.reduceLeDiff, Nat.reduceAdd, Nat.reduceMul, Nat.reduceSub, Nat.reduceEqDiff, Nat.reduceBEq, beq_self_eq_true, Bool.true_or, Bool.or_true, and_self, and_true, true_and, not_true_eq_false, decide_true, decide_false, decide_eq_true_eq, Option.isNone_none, Option.isNone_some, List.isEmpty_nil, Option.isSome_some, true_or, or_true, false_or, or_false, Bool.and_true, Bool.true_and, Bool.or_false, Bool.false_or, Bool.not_true, Bool.not_false, Int.reduceLE, Int.reduceLT, Int.reduceNeg, Int.reduceAdd, Int.reduceMul, Int.reduceSub, Int.reduceToNat, BitVec.reduceOfInt, List.getElem?_cons_zero, List.getElem?_cons_succ, reduceCtorEq, Bool.false_eq_true, List.flatMap_cons, List.flatMap_nil, List.append_nil, List.nil_append, List.cons_append, Option.isSome_none, List.set_cons_zero, List.set_cons_succ, List.getD_cons_zero, List.getD_cons_succ, List.size_toArray, u8_lt, u16_lt, u32_lt, List.map_cons, List.map_nil, List.filterMap_nil, List.filterMap_cons, List.head?_nil, List.head?_cons, List.zip_cons_cons, List.zip_nil_left, List.zip_nil_right, List.any_cons, List.any_nil, List.all_cons, List.all_nil, List.contains_cons, List.contains_nil, Int.toNat_natCast, Int.toNat_zero, BitVec.toNat_ofNat, Nat.reducePow, Nat.reduceMod, toN_add, Nat.zero_add, Nat.add_zero, Nat.mul_one, Nat.zero_mul, zz] <;> rfl)
    (h3 : keysAtO op m (args.flatMap V.keys) = some ck := by first | exact kO_move | exact kO_else rfl (by simp (disch := omega) only [go_sem, List.take_zero, List.take_succ_cons, and_false, false_and, not_false_eq_true, ↓act, ↓restr_eq, ↓ctx_ty, ↓ctx_fn, ↓put_at, ↓purge_at, mapO, lookN, Option.getD_some, Option.map_some, Option.bind_some, List.length_cons, List.length_nil, List.length_append, List.length_set, List.toList_toArray, ↓reduceIte, ↓reduceDIte, Nat.reduceLT, Nat.reduceLeDiff, Nat.reduceAdd, Nat.reduceMul, Nat.reduceSub, Nat.reduceEqDiff, Nat.reduceBEq, beq_self_eq_true, Bool.true_or, Bool.or_true, and_self, and_true, true_and, not_true_eq_false, decide_true, decide_false, decide_eq_true_eq, Option.isNone_none, Option.isNone_some, List.isEmpty_nil, Option.isSome_some, true_or, or_true, false_or, or_false, Bool.and_true, Bool.true_and, Bool.or_false, Bool.false_or, Bool.not_true, Bool.not_false, Int.reduceLE, Int.reduceLT, Int.reduceNeg, Int.reduceAdd, Int.reduceMul, Int.reduceSub, Int.reduceToNat, BitVec.reduceOfInt, List.getElem?_cons_zero, List.getElem?_cons_succ, reduceCtorEq, Bool.false_eq_true, List.flatMap_cons, List.flatMap_nil, List.append_nil, List.nil_append, List.cons_append, Option.isSome_none, List.set_cons_zero, List.set_cons_succ, List.getD_cons_zero, List.getD_cons_succ, List.size_toArray, u8_lt, u16_lt, u32_lt, List.map_cons, List.map_nil, List.filterMap_nil, List.filterMap_cons, List.head?_nil, List.head?_cons, List.zip_cons_cons, List.zip_nil_left, List.zip_nil_right, List.any_cons, List.any_nil, List.all_cons, List.all_nil, List.contains_cons, List.contains_nil, Int.toNat_natCast, Int.toNat_zero, BitVec.toNat_ofNat, Nat.reducePow, Nat.reduceMod, toN_add, Nat.zero_add, Nat.add_zero, Nat.mul_one, Nat.zero_mul] <;> rfl))
    (h4 : dstOK n dst res = true := by rfl)
    (h5 : St.after ⟨e, m, n⟩ dst res = some st1 := by first | exact aft_val rfl | exact aft_none | exact aft_newv rfl | exact aft_updn | exact aft_updv rfl | exact aft_updp rfl | (simp (disch := omega) only [go_sem, List.take_zero, List.take_succ_cons, and_false, false_and, not_false_eq_true, ↓act, ↓restr_eq, ↓ctx_ty, ↓ctx_fn, ↓put_at, ↓purge_at, mapO, lookN, Option.getD_some, Option.map_some, Option.bind_some, List.length_cons, List.length_nil, List.length_append, List.length_set, List.toList_toArray, ↓reduceIte, ↓reduceDIte, Nat.reduceLT, Nat.reduceLeDiff, Nat.reduceAdd, Nat.reduceMul, Nat.reduceSub, Nat.reduceEqDiff, Nat.reduceBEq, beq_self_eq_true, Bool.true_or, Bool.or_true, and_self, and_true, true_and, not_true_eq_false, decide_true, decide_false, decide_eq_true_eq, Option.isNone_none, Option.isNone_some, List.isEmpty_nil, Option.isSome_some, true_or, or_true, false_or, or_false, Bool.and_true, Bool.true_and, Bool.or_false, Bool.false_or, Bool.not_true, Bool.not_false, Int.reduceLE, Int.reduceLT, Int.reduceNeg, Int.reduceAdd, Int.reduceMul, Int.reduceSub, Int.reduceToNat, BitVec.reduceOfInt, List.getElem?_cons_zero, List.getElem?_cons_succ, reduceCtorEq, Bool.false_eq_true, List.flatMap_cons, List.flatMap_nil, List.append_nil, List.nil_append, List.cons_append, Option.isSome_none, List.set_cons_zero, List.set_cons_succ, List.getD_cons_zero, List.getD_cons_succ, List.size_toArray, u8_lt, u16_lt, u32_lt, List.map_cons, List.map_nil, List.filterMap_nil, List.filterMap_cons, List.head?_nil, List.head?_cons, List.zip_cons_cons, List.zip_nil_left, List.zip_nil_right, List.any_cons, List.any_nil, List.all_cons, List.all_nil, List.contains_cons, List.contains_nil, Int.toNat_natCast, Int.toNat_zero, BitVec.toNat_ofNat, Nat.reducePow, Nat.reduceMod, toN_add, Nat.zero_add, Nat.add_zero, Nat.mul_one, Nat.zero_mul] <;> rfl))
    (h6 : ({ ev := { dst := dst, res := res }, rk := args.flatMap V.keys, ck := ck } : Rec).foot = f := by simp only [Rec.foot, Ev.app, purgeIf_nil, purgeIf_cons, updM_nil, updM_cons, newM_none, newM_some, V.keys, V.keys1, List.map_cons, List.map_nil, List.filterMap_nil, List.filterMap_cons, List.head?_nil, List.head?_cons, List.flatMap_cons, List.flatMap_nil, List.append_nil, List.nil_append, List.cons_append] <;> rfl) : DWop Γ ops A fs e m n dst op ty pos af (some (j, want)) os R :=
  ⟨DW.opY (o := ⟨dst, op, ty, pos, af, some (j, want)⟩) rfl (hx he) hl h1 (h2 he) h3 h4 h5 h6 k⟩
theorem DWop.no {d : Nat} (he : E) (k : DW Γ ops A (⟨[], [], [], [], []⟩ :: fs) ⟨put d (.tup []) e, m, n⟩ os R)
    (hd : dst = some d := by rfl)
    (hx : E → guardB ops.toList ⟨e, m, n⟩ j want = some (!want) := by intro zz; simp (disch := omega) only [guardB, List.getElem?_cons_zero, List.getElem?_cons_succ, ↓mapO_opn, ↓mapO_onil, ↓opnd_tmp, ↓opnd_const, ↓opnd_func, ↓opnd_glob, ↓put_at, ↓purge_at, lookN_at, lookN, purge1_val, purge1_none, V.keys, V.keys1, constV, chk_ok, chk_true, ByteArray.size, Option.map_some, argV, List.length_cons, List.length_nil, List.size_toArray, ↓reduceIte, Nat.reduceLT, Nat.reduceLeDiff, Nat.reduceAdd, Nat.reduceEqDiff, Nat.reduceBEq, beq_self_eq_true, Bool.true_or, Bool.or_true, and_self, and_true, true_and, true_or, or_true, false_or, or_false, Bool.or_false, Bool.false_or, Int.reduceLE, Int.reduceLT, Int.reduceNeg, BitVec.reduceOfInt, List.getElem?_cons_zero, List.getElem?_cons_succ, reduceCtorEq, Bool.false_eq_true, List.flatMap_cons, List.flatMap_nil, List.append_nil, List.nil_append, List.cons_append, List.any_cons, List.any_nil, List.contains_cons, List.contains_nil, Bool.not_true, Bool.not_false, zz] <;> rfl)
    (hl : Nat.blt d n = true := by rfl) : DWop Γ ops A fs e m n dst op ty pos af (some (j, want)) os R :=
  ⟨DW.no (o := ⟨dst, op, ty, pos, af, some (j, want)⟩) rfl hd (hx he) hl k⟩
theorem DWcall.go (he : E) (k : DW Γ ops A (f :: fs) st1 os R)
    (h1 : mapO (opnd Γ e) l = some args := by simp (disch := omega) only [↓mapO_opn, ↓mapO_onil, ↓opnd_tmp, ↓opnd_const, ↓opnd_func, ↓opnd_glob, ↓put_at, ↓purge_at, lookN_at, lookN, purge1_val, purge1_none, V.keys, V.keys1, constV, chk_ok, chk_true, ByteArray.size, Option.map_some, argV, List.length_cons, List.length_nil, List.size_toArray, ↓reduceIte, Nat.reduceLT, Nat.reduceLeDiff, Nat.reduceAdd, Nat.reduceEqDiff, Nat.reduceBEq, beq_self_eq_true, Bool.true_or, Bool.or_true, and_self, and_true, true_and, true_or, or_true, false_or, or_false, Bool.or_false, Bool.false_or, Int.reduceLE, Int.reduceLT, Int.reduceNeg, BitVec.reduceOfInt, List.getElem?_cons_zero, List.getElem?_cons_succ, reduceCtorEq, Bool.false_eq_true, List.flatMap_cons, List.flatMap_nil, List.append_nil, List.nil_append, List.cons_append, List.any_cons, List.any_nil, List.contains_cons, List.contains_nil, Bool.not_true, Bool.not_false] <;> rfl)
    (hf : Γ.fn g = some sp := by rfl)
    (h2 : E → mapO (inV sp.refSl (restr (args.flatMap V.keys) m)) args = some ins := by intro zz; simp (disch := omega) only [go_sem, List.take_zero, List.take_succ_cons, and_false, false_and, not_false_eq_true, ↓act, ↓restr_eq, ↓ctx_ty, ↓ctx_fn, ↓put_at, ↓purge_at, mapO, lookN, Option.getD_some, Option.map_some, Option.bind_some, List.length_cons, List.length_nil, List.length_append, List.length_set, List.toList_toArray, ↓reduceIte, ↓reduceDIte, Nat.reduceLT, Nat.reduceLeDiff, Nat.reduceAdd, Nat.reduceMul, Nat.reduceSub, Nat.reduceEqDiff, Nat.reduceBEq, beq_self_eq_true, Bool.true_or, Bool.or_true, and_self, and_true, true_and, not_true_eq_false, decide_true, decide_false, decide_eq_true_eq, Option.isNone_none, Option.isNone_some, List.isEmpty_nil, Option.isSome_some, true_or, or_true, false_or, or_false, Bool.and_true, Bool.true_and, Bool.or_false, Bool.false_or, Bool.not_true, Bool.not_false, Int.reduceLE, Int.reduceLT, Int.reduceNeg, Int.reduceAdd, Int.reduceMul, Int.reduceSub, Int.reduceToNat, BitVec.reduceOfInt, List.getElem?_cons_zero, List.getElem?_cons_succ, reduceCtorEq, Bool.false_eq_true, List.flatMap_cons, List.flatMap_nil, List.append_nil, List.nil_append, List.cons_append, Option.isSome_none, List.set_cons_zero, List.set_cons_succ, List.getD_cons_zero, List.getD_cons_succ, List.size_toArray, u8_lt, u16_lt, u32_lt, List.map_cons, List.map_nil, List.filterMap_nil, List.filterMap_cons, List.head?_nil, List.head?_cons, List.zip_cons_cons, List.zip_nil_left, List.zip_nil_right, List.any_cons, List.any_nil, List.all_cons, List.all_nil, List.contains_cons, List.contains_nil, Int.toNat_natCast, Int.toNat_zero, BitVec.toNat_ofNat, Nat.reducePow, Nat.reduceMod, toN_add, Nat.zero_add, Nat.add_zero, Nat.mul_one, Nat.zero_mul, zz] <;> rfl)
    (h3 : E → sp.run ins = some (ret, outs) := by intro zz; first | rfl | exact chk_ok (by omega) | (simp (disch := omega) only [go_sem, List.take_zero, List.take_succ_cons, and_false, false_and, not_false_eq_true, ↓act, ↓restr_eq, ↓ctx_ty, ↓ctx_fn, ↓put_at, ↓purge_at, mapO, lookN, Option.getD_some, Option.map_some, Option.bind_some, List.length_cons, List.length_nil, List.length_append, List.length_set, List.toList_toArray, ↓reduceIte, ↓reduceDIte, Nat.reduceLT, Nat.reduceLeDiff, Nat.reduceAdd, Nat.reduceMul, Nat.reduceSub, Nat.reduceEqDiff, Nat.reduceBEq, beq_self_eq_true, Bool.true_or, Bool.or_true, and_self, and_true, true_and, not_true_eq_false, decide_true, decide_false, decide_eq_true_eq, Option.isNone_none, Option.isNone_some, List.isEmpty_nil, Option.isSome_some, true_or, or_true, false_or, or_false, Bool.and_true, Bool.true_and, Bool.or_false, Bool.false_or, Bool.not_true, Bool.not_false, Int.reduceLE, Int.reduceLT, Int.reduceNeg, Int.reduceAdd, Int.reduceMul, Int.reduceSub, Int.reduceToNat, BitVec.reduceOfInt, List.getElem?_cons_zero, List.getElem?_cons_succ, reduceCtorEq, Bool.false_eq_true, List.flatMap_cons, List.flatMap_nil, List.append_nil, List.nil_append, List.cons_append, Option.isSome_none, List.set_cons_zero, List.set_cons_succ, List.getD_cons_zero, List.getD_cons_succ, List.size_toArray, u8_lt, u16_lt, u32_lt, List.map_cons, List.map_nil, List.filterMap_nil, List.filterMap_cons, List.head?_nil, List.head?_cons, List.zip_cons_cons, List.zip_nil_left, List.zip_nil_right, List.any_cons, List.any_nil, List.all_cons, List.all_nil, List.contains_cons, List.contains_nil, Int.toNat_natCast, Int.toNat_zero, BitVec.toNat_ofNat, Nat.reducePow, Nat.reduceMod, toN_add, Nat.zero_add, Nat.add_zero, Nat.mul_one, Nat.zero_mul, zz] <;> rfl))
    (h4 : CallOK sp.refSl args ret outs := by refine ⟨rfl, rfl, rfl, ?_, rfl, rfl, rfl⟩; first | exact .inl rfl | exact .inr rfl)
    (h5 : callRes sp.refSl (dst.getD 0) args ret outs = res := by simp (disch := omega) only [go_sem, List.take_zero, List.take_succ_cons, and_false, false_and, not_false_eq_true, ↓act, ↓restr_eq, ↓ctx_ty, ↓ctx_fn, ↓put_at, ↓purge_at, mapO, lookN, Option.getD_some, Option.map_some, Option.bind_some, List.length_cons, List.length_nil, List.length_append, List.length_set, List.toList_toArray, ↓reduceIte, ↓reduceDIte, Nat.reduceLT, Nat.reduceLeDiff, Nat.reduceAdd, Nat.reduceMul, Nat.reduceSub, Nat.reduceEqDiff, Nat.reduceBEq, beq_self_eq_true, Bool.true_or, Bool.or_true, and_self, and_true, true_and, not_true_eq_false, decide_true, decide_false, decide_eq_true_eq, Option.isNone_none, Option.isNone_some, List.isEmpty_nil, Option.isSome_some, true_or, or_true, false_or, or_false, Bool.and_true, Bool.true_and, Bool.or_false, Bool.false_or, Bool.not_true, Bool.not_false, Int.reduceLE, Int.reduceLT, Int.reduceNeg, Int.reduceAdd, Int.reduceMul, Int.reduceSub, Int.reduceToNat, BitVec.reduceOfInt, List.getElem?_cons_zero, List.getElem?_cons_succ, reduceCtorEq, Bool.false_eq_true, List.flatMap_cons, List.flatMap_nil, List.append_nil, List.nil_append, List.cons_append, Option.isSome_none, List.set_cons_zero, List.set_cons_succ, List.getD_cons_zero, List.getD_cons_succ, List.size_toArray, u8_lt, u16_lt, u32_lt, List.map_cons, List.map_nil, List.filterMap_nil, List.filterMap_cons, List.head?_nil, List.head?_cons, List.zip_cons_cons, List.zip_nil_left, List.zip_nil_right, List.any_cons, List.any_nil, List.all_cons, List.all_nil, List.contains_cons, List.contains_nil, Int.toNat_natCast, Int.toNat_zero, BitVec.toNat_ofNat, Nat.reducePow, Nat.reduceMod, toN_add, Nat.zero_add, Nat.add_zero, Nat.mul_one, Nat.zero_mul] <;> rfl)
    (h6 : keysAt m (args.flatMap V.keys) = some ck := by simp (disch := omega) only [go_sem, List.take_zero, List.take_succ_cons, and_false, false_and, not_false_eq_true, ↓act, ↓restr_eq, ↓ctx_ty, ↓ctx_fn, ↓put_at, ↓purge_at, mapO, lookN, Option.getD_some, Option.map_some, Option.bind_some, List.length_cons, List.length_nil, List.length_append, List.length_set, List.toList_toArray, ↓reduceIte, ↓reduceDIte, Nat.reduceLT, Nat.reduceLeDiff, Nat.reduceAdd, Nat.reduceMul, Nat.reduceSub, Nat.reduceEqDiff, Nat.reduceBEq, beq_self_eq_true, Bool.true_or, Bool.or_true, and_self, and_true, true_and, not_true_eq_false, decide_true, decide_false, decide_eq_true_eq, Option.isNone_none, Option.isNone_some, List.isEmpty_nil, Option.isSome_some, true_or, or_true, false_or, or_false, Bool.and_true, Bool.true_and, Bool.or_false, Bool.false_or, Bool.not_true, Bool.not_false, Int.reduceLE, Int.reduceLT, Int.reduceNeg, Int.reduceAdd, Int.reduceMul, Int.reduceSub, Int.reduceToNat, BitVec.reduceOfInt, List.getElem?_cons_zero, List.getElem?_cons_succ, reduceCtorEq, Bool.false_eq_true, List.flatMap_cons, List.flatMap_nil, List.append_nil, List.nil_append, List.cons_append, Option.isSome_none, List.set_cons_zero, List.set_cons_succ, List.getD_cons_zero, List.getD_cons_succ, List.size_toArray, u8_lt, u16_lt, u32_lt, List.map_cons, List.map_nil, List.filterMap_nil, List.filterMap_cons, List.head?_nil, List.head?_cons, List.zip_cons_cons, List.zip_nil_left, List.zip_nil_right, List.any_cons, List.any_nil, List.all_cons, List.all_nil, List.contains_cons, List.contains_nil, Int.toNat_natCast, Int.toNat_zero, BitVec.toNat_ofNat, Nat.reducePow, Nat.reduceMod, toN_add, Nat.zero_add, Nat.add_zero, Nat.mul_one, Nat.zero_mul] <;> rfl)
    (h7 : dstOK n dst res = true := by rfl)
    (h9 : St.after ⟨e, m, n⟩ dst res = some st1 := by first | exact aft_val rfl | exact aft_none | exact aft_newv rfl | exact aft_updn | exact aft_updv rfl | exact aft_updp rfl | (simp (disch := omega) only [go_sem, List.take_zero, List.take_succ_cons, and_false, false_and, not_false_eq_true, ↓act, ↓restr_eq, ↓ctx_ty, ↓ctx_fn, ↓put_at, ↓purge_at, mapO, lookN, Option.getD_some, Option.map_some, Option.bind_some, List.length_cons, List.length_nil, List.length_append, List.length_set, List.toList_toArray, ↓reduceIte, ↓reduceDIte, Nat.reduceLT, Nat.reduceLeDiff, Nat.reduceAdd, Nat.reduceMul, Nat.reduceSub, Nat.reduceEqDiff, Nat.reduceBEq, beq_self_eq_true, Bool.true_or, Bool.or_true, and_self, and_true, true_and, not_true_eq_false, decide_true, decide_false, decide_eq_true_eq, Option.isNone_none, Option.isNone_some, List.isEmpty_nil, Option.isSome_some, true_or, or_true, false_or, or_false, Bool.and_true, Bool.true_and, Bool.or_false, Bool.false_or, Bool.not_true, Bool.not_false, Int.reduceLE, Int.reduceLT, Int.reduceNeg, Int.reduceAdd, Int.reduceMul, Int.reduceSub, Int.reduceToNat, BitVec.reduceOfInt, List.getElem?_cons_zero, List.getElem?_cons_succ, reduceCtorEq, Bool.false_eq_true, List.flatMap_cons, List.flatMap_nil, List.append_nil, List.nil_append, List.cons_append, Option.isSome_none, List.set_cons_zero, List.set_cons_succ, List.getD_cons_zero, List.getD_cons_succ, List.size_toArray, u8_lt, u16_lt, u32_lt, List.map_cons, List.map_nil, List.filterMap_nil, List.filterMap_cons, List.head?_nil, List.head?_cons, List.zip_cons_cons, List.zip_nil_left, List.zip_nil_right, List.any_cons, List.any_nil, List.all_cons, List.all_nil, List.contains_cons, List.contains_nil, Int.toNat_natCast, Int.toNat_zero, BitVec.toNat_ofNat, Nat.reducePow, Nat.reduceMod, toN_add, Nat.zero_add, Nat.add_zero, Nat.mul_one, Nat.zero_mul] <;> rfl))
    (h8 : ({ ev := { dst := dst, res := res }, rk := args.flatMap V.keys, ck := ck } : Rec).foot = f := by simp only [Rec.foot, Ev.app, purgeIf_nil, purgeIf_cons, updM_nil, updM_cons, newM_none, newM_some, V.keys, V.keys1, List.map_cons, List.map_nil, List.filterMap_nil, List.filterMap_cons, List.head?_nil, List.head?_cons, List.flatMap_cons, List.flatMap_nil, List.append_nil, List.nil_append, List.cons_append] <;> rfl) : DWcall Γ ops A fs e m n dst g l ts ty pos af none os R :=
  ⟨DW.callA h1 hf (h2 he) (h3 he) h4 h5 h6 h7 h9 h8 k⟩
theorem DWcall.yes (he : E) (k : DW Γ ops A (f :: fs) st1 os R)
    (hx : E → guardB ops.toList ⟨e, m, n⟩ j want = some want := by intro zz; simp (disch := omega) only [guardB, List.getElem?_cons_zero, List.getElem?_cons_succ, ↓mapO_opn, ↓mapO_onil, ↓opnd_tmp, ↓opnd_const, ↓opnd_func, ↓opnd_glob, ↓put_at, ↓purge_at, lookN_at, lookN, purge1_val, purge1_none, V.keys, V.keys1, constV, chk_ok, chk_true, ByteArray.size, Option.map_some, argV, List.length_cons, List.length_nil, List.size_toArray, ↓reduceIte, Nat.reduceLT, Nat.reduceLeDiff, Nat.reduceAdd, Nat.reduceEqDiff, Nat.reduceBEq, beq_self_eq_true, Bool.true_or, Bool.or_true, and_self, and_true, true_and, true_or, or_true, false_or, or_false, Bool.or_false, Bool.false_or, Int.reduceLE, Int.reduceLT, Int.reduceNeg, BitVec.reduceOfInt, List.getElem?_cons_zero, List.getElem?_cons_succ, reduceCtorEq, Bool.false_eq_true, List.flatMap_cons, List.flatMap_nil, List.append_nil, List.nil_append, List.cons_append, List.any_cons, List.any_nil, List.contains_cons, List.contains_nil, Bool.not_true, Bool.not_false, zz] <;> rfl)
    (h1 : mapO (opnd Γ e) l = some args := by simp (disch := omega) only [↓mapO_opn, ↓mapO_onil, ↓opnd_tmp, ↓opnd_const, ↓opnd_func, ↓opnd_glob, ↓put_at, ↓purge_at, lookN_at, lookN, purge1_val, purge1_none, V.keys, V.keys1, constV, chk_ok, chk_true, ByteArray.size, Option.map_some, argV, List.length_cons, List.length_nil, List.size_toArray, ↓reduceIte, Nat.reduceLT, Nat.reduceLeDiff, Nat.reduceAdd, Nat.reduceEqDiff, Nat.reduceBEq, beq_self_eq_true, Bool.true_or, Bool.or_true, and_self, and_true, true_and, true_or, or_true, false_or, or_false, Bool.or_false, Bool.false_or, Int.reduceLE, Int.reduceLT, Int.reduceNeg, BitVec.reduceOfInt, List.getElem?_cons_zero, List.getElem?_cons_succ, reduceCtorEq, Bool.false_eq_true, List.flatMap_cons, List.flatMap_nil, List.append_nil, List.nil_append, List.cons_append, List.any_cons, List.any_nil, List.contains_cons, List.contains_nil, Bool.not_true, Bool.not_false] <;> rfl)
    (hf : Γ.fn g = some sp := by rfl)
    (h2 : E → mapO (inV sp.refSl (restr (args.flatMap V.keys) m)) args = some ins := by intro zz; simp (disch := omega) only [go_sem, List.take_zero, List.take_succ_cons, and_false, false_and, not_false_eq_true, ↓act, ↓restr_eq, ↓ctx_ty, ↓ctx_fn, ↓put_at, ↓purge_at, mapO, lookN, Option.getD_some, Option.map_some, Option.bind_some, List.length_cons, List.length_nil, List.length_append, List.length_set, List.toList_toArray, ↓reduceIte, ↓reduceDIte, Nat.reduceLT, Nat.reduceLeDiff, Nat.reduceAdd, Nat.reduceMul, Nat.reduceSub, Nat.reduceEqDiff, Nat.reduceBEq, beq_self_eq_true, Bool.true_or, Bool.or_true, and_self, and_true, true_and, not_true_eq_false, decide_true, decide_false, decide_eq_true_eq, Option.isNone_none, Option.isNone_some, List.isEmpty_nil, Option.isSome_some, true_or, or_true, false_or, or_false, Bool.and_true, Bool.true_and, Bool.or_false, Bool.false_or, Bool.not_true, Bool.not_false, Int.reduceLE, Int.reduceLT, Int.reduceNeg, Int.reduceAdd, Int.reduceMul, Int.reduceSub, Int.reduceToNat, BitVec.reduceOfInt, List.getElem?_cons_zero, List.getElem?_cons_succ, reduceCtorEq, Bool.false_eq_true, List.flatMap_cons, List.flatMap_nil, List.append_nil, List.nil_append, List.cons_append, Option.isSome_none, List.set_cons_zero, List.set_cons_succ, List.getD_cons_zero, List.getD_cons_succ, List.size_toArray, u8_lt, u16_lt, u32_lt, List.map_cons, List.map_nil, List.filterMap_nil, List.filterMap_cons, List.head?_nil, List.head?_cons, List.zip_cons_cons, List.zip_nil_left, List.zip_nil_right, List.any_cons, List.any_nil, List.all_cons, List.all_nil, List.contains_cons, List.contains_nil, Int.toNat_natCast, Int.toNat_zero, BitVec.toNat_ofNat, Nat.reducePow, Nat.reduceMod, toN_add, Nat.zero_add, Nat.add_zero, Nat.mul_one, Nat.zero_mul, zz] <;> rfl)
    (h3 : E → sp.run ins = some (ret, outs) := by intro zz; first | rfl | exact chk_ok (by omega) | (simp (disch := omega) only [go_sem, List.take_zero, List.take_succ_cons, and_false, false_and, not_false_eq_true, ↓act, ↓restr_eq, ↓ctx_ty, ↓ctx_fn, ↓put_at, ↓purge_at, mapO, lookN, Option.getD_some, Option.map_some, Option.bind_some, List.length_cons, List.length_nil, List.length_append, List.length_set, List.toList_toArray, ↓reduceIte, ↓reduceDIte, Nat.reduceLT, Nat.reduceLeDiff, Nat.reduceAdd, Nat.reduceMul, Nat.reduceSub, Nat.reduceEqDiff, Nat.reduceBEq, beq_self_eq_true, Bool.true_or, Bool.or_true, and_self, and_true, true_and, not_true_eq_false, decide_true, decide_false, decide_eq_true_eq, Option.isNone_none, Option.isNone_some, List.isEmpty_nil, Option.isSome_some, true_or, or_true, false_or, or_false, Bool.and_true, Bool.true_and, Bool.or_false, Bool.false_or, Bool.not_true, Bool.not_false, Int.reduceLE, Int.reduceLT, Int.reduceNeg, Int.reduceAdd, Int.reduceMul, Int.reduceSub, Int.reduceToNat, BitVec.reduceOfInt, List.getElem?_cons_zero, List.getElem?_cons_succ, reduceCtorEq, Bool.false_eq_true, List.flatMap_cons, List.flatMap_nil, List.append_nil, List.nil_append, List.cons_append, Option.isSome_none, List.set_cons_zero, List.set_cons_succ, List.getD_cons_zero, List.getD_cons_succ, List.size_toArray, u8_lt, u16_lt, u32_lt, List.map_cons, List.map_nil, List.filterMap_nil, List.filterMap_cons, List.head?_nil, List.head?_cons, List.zip_cons_cons, List.zip_nil_left, List.zip_nil_right, List.any_cons, List.any_nil, List.all_cons, List.all_nil, List.contains_cons, List.contains_nil, Int.toNat_natCast, Int.toNat_zero, BitVec.toNat_ofNat, Nat.reducePow, Nat.reduceMod, toN_add, Nat.zero_add, Nat.add_zero, Nat.mul_one, Nat.zero_mul, zz] <;> rfl))
    (h4 : CallOK sp.refSl args ret outs := by refine ⟨rfl, rfl, rfl, ?_, rfl, rfl, rfl⟩; first | exact .inl rfl | exact .inr rfl)
    (h5 : callRes sp.refSl (dst.getD 0) args ret outs = res := by simp (disch := omega) only [go_sem, List.take_zero, List.take_succ_cons, and_false, false_and, not_false_eq_true, ↓act, ↓restr_eq, ↓ctx_ty, ↓ctx_fn, ↓put_at, ↓purge_at, mapO, lookN, Option.getD_some, Option.map_some, Option.bind_some, List.length_cons, List.length_nil, List.length_append, List.length_set, List.toList_toArray, ↓reduceIte, ↓reduceDIte, Nat.reduceLT, Nat.reduceLeDiff, Nat.reduceAdd, Nat.reduceMul, Nat.reduceSub, Nat.reduceEqDiff, Nat.reduceBEq, beq_self_eq_true, Bool.true_or, Bool.or_true, and_self, and_true, true_and, not_true_eq_false, decide_true, decide_false, decide_eq_true_eq, Option.isNone_none, Option.isNone_some, List.isEmpty_nil, Option.isSome_some, true_or, or_true, false_or, or_false, Bool.and_true, Bool.true_and, Bool.or_false, Bool.false_or, Bool.not_true, Bool.not_false, Int.reduceLE, Int.reduceLT, Int.reduceNeg, Int.reduceAdd, Int.reduceMul, Int.reduceSub, Int.reduceToNat, BitVec.reduceOfInt, List.getElem?_cons_zero, List.getElem?_cons_succ, reduceCtorEq, Bool.false_eq_true, List.flatMap_cons, List.flatMap_nil, List.append_nil, List.nil_append, List.cons_append, Option.isSome_none, List.set_cons_zero, List.set_cons_succ, List.getD_cons_zero, List.getD_cons_succ, List.size_toArray, u8_lt, u16_lt, u32_lt, List.map_cons, List.map_nil, List.filterMap_nil, List.filterMap_cons, List.head?_nil, List.head?_cons, List.zip_cons_cons, List.zip_nil_left, List.zip_nil_right, List.any_cons, List.any_nil, List.all_cons, List.all_nil, List.contains_cons, List.contains_nil, Int.toNat_natCast, Int.toNat_zero, BitVec.toNat_ofNat, Nat.reducePow, Nat.reduceMod, toN_add, Nat.zero_add, Nat.add_zero, Nat.mul_one, Nat.zero_mul] <;> rfl)
    (h6 : keysAt m (args.flatMap V.keys) = some ck := by simp (disch := omega) only [go_sem, List.take_zero, List.take_succ_cons, and_false, false_and, not_false_eq_true, ↓act, ↓restr_eq, ↓ctx_ty, ↓ctx_fn, ↓put_at, ↓purge_at, mapO, lookN, Option.getD_some, Option.map_some, Option.bind_some, List.length_cons, List.length_nil, List.length_append, List.length_set, List.toList_toArray, ↓reduceIte, ↓reduceDIte, Nat.reduceLT, Nat.reduceLeDiff, Nat.reduceAdd, Nat.reduceMul, Nat.reduceSub, Nat.reduceEqDiff, Nat.reduceBEq, beq_self_eq_true, Bool.true_or, Bool.or_true, and_self, and_true, true_and, not_true_eq_false, decide_true, decide_false, decide_eq_true_eq, Option.isNone_none, Option.isNone_some, List.isEmpty_nil, Option.isSome_some, true_or, or_true, false_or, or_false, Bool.and_true, Bool.true_and, Bool.or_false, Bool.false_or, Bool.not_true, Bool.not_false, Int.reduceLE, Int.reduceLT, Int.reduceNeg, Int.reduceAdd, Int.reduceMul, Int.reduceSub, Int.reduceToNat, BitVec.reduceOfInt, List.getElem?_cons_zero, List.getElem?_cons_succ, reduceCtorEq, Bool.false_eq_true, List.flatMap_cons, List.flatMap_nil, List.append_nil, List.nil_append, List.cons_append, Option.isSome_none, List.set_cons_zero, List.set_cons_succ, List.getD_cons_zero, List.getD_cons_succ, List.size_toArray, u8_lt, u16_lt, u32_lt, List.map_cons, List.map_nil, List.filterMap_nil, List.filterMap_cons, List.head?_nil, List.head?_cons, List.zip_cons_cons, List.zip_nil_left, List.zip_nil_right, List.any_cons, List.any_nil, List.all_cons, List.all_nil, List.contains_cons, List.contains_nil, Int.toNat_natCast, Int.toNat_zero, BitVec.toNat_ofNat, Nat.reducePow, Nat.reduceMod, toN_add, Nat.zero_add, Nat.add_zero, Nat.mul_one, Nat.zero_mul] <;> rfl)
    (h7 : dstOK n dst res = true := by rfl)
    (h9 : St.after ⟨e, m, n⟩ dst res = some st1 := by first | exact aft_val rfl | exact aft_none | exact aft_newv rfl | exact aft_updn | exact aft_updv rfl | exact aft_updp rfl | (simp (disch := omega) only [go_sem, List.take_zero, List.take_succ_cons, and_false, false_and, not_false_eq_true, ↓act, ↓restr_eq, ↓ctx_ty, ↓ctx_fn, ↓put_at, ↓purge_at, mapO, lookN, Option.getD_some, Option.map_some, Option.bind_some, List.length_cons, List.length_nil, List.length_append, List.length_set, List.toList_toArray, ↓reduceIte, ↓reduceDIte, Nat.reduceLT, Nat.reduceLeDiff, Nat.reduceAdd, Nat.reduceMul, Nat.reduceSub, Nat.reduceEqDiff, Nat.reduceBEq, beq_self_eq_true, Bool.true_or, Bool.or_true, and_self, and_true, true_and, not_true_eq_false, decide_true, decide_false, decide_eq_true_eq, Option.isNone_none, Option.isNone_some, List.isEmpty_nil, Option.isSome_some, true_or, or_true, false_or, or_false, Bool.and_true, Bool.true_and, Bool.or_false, Bool.false_or, Bool.not_true, Bool.not_false, Int.reduceLE, Int.reduceLT, Int.reduceNeg, Int.reduceAdd, Int.reduceMul, Int.reduceSub, Int.reduceToNat, BitVec.reduceOfInt, List.getElem?_cons_zero, List.getElem?_cons_succ, reduceCtorEq, Bool.false_eq_true, List.flatMap_cons, List.flatMap_nil, List.append_nil, List.nil_append, List.cons_append, Option.isSome_none, List.set_cons_zero, List.set_cons_succ, List.getD_cons_zero, List.getD_cons_succ, List.size_toArray, u8_lt, u16_lt, u32_lt, List.map_cons, List.map_nil, List.filterMap_nil, List.filterMap_cons, List.head?_nil, List.head?_cons, List.zip_cons_cons, List.zip_nil_left, List.zip_nil_right, List.any_cons, List.any_nil, List.all_cons, List.all_nil, List.contains_cons, List.contains_nil, Int.toNat_natCast, Int.toNat_zero, BitVec.toNat_ofNat, Nat.reducePow, Nat.reduceMod, toN_add, Nat.zero_add, Nat.add_zero, Nat.mul_one, Nat.zero_mul] <;> rfl))
    (h8 : ({ ev := { dst := dst, res := res }, rk := args.flatMap V.keys, ck := ck } : Rec).foot = f := by simp only [Rec.foot, Ev.app, purgeIf_nil, purgeIf_cons, updM_nil, updM_cons, newM_none, newM_some, V.keys, V.keys1, List.map_cons, List.map_nil, List.filterMap_nil, List.filterMap_cons, List.head?_nil, List.head?_cons, List.flatMap_cons, List.flatMap_nil, List.append_nil, List.nil_append, List.cons_append] <;> rfl) : DWcall Γ ops A fs e m n dst g l ts ty pos af (some (j, want)) os R :=
  ⟨DW.callAY (hx he) h1 hf (h2 he) (h3 he) h4 h5 h6 h7 h9 h8 k⟩
theorem DWcall.no {d : Nat} (he : E) (k : DW Γ ops A (⟨[], [], [], [], []⟩ :: fs) ⟨put d (.tup []) e, m, n⟩ os R)
    (hd : dst = some d := by rfl)
    (hx : E → guardB ops.toList ⟨e, m, n⟩ j want = some (!want) := by intro zz; simp (disch := omega) only [guardB, List.getElem?_cons_zero, List.getElem?_cons_succ, ↓mapO_opn, ↓mapO_onil, ↓opnd_tmp, ↓opnd_const, ↓opnd_func, ↓opnd_glob, ↓put_at, ↓purge_at, lookN_at, lookN, purge1_val, purge1_none, V.keys, V.keys1, constV, chk_ok, chk_true, ByteArray.size, Option.map_some, argV, List.length_cons, List.length_nil, List.size_toArray, ↓reduceIte, Nat.reduceLT, Nat.reduceLeDiff, Nat.reduceAdd, Nat.reduceEqDiff, Nat.reduceBEq, beq_self_eq_true, Bool.true_or, Bool.or_true, and_self, and_true, true_and, true_or, or_true, false_or, or_false, Bool.or_false, Bool.false_or, Int.reduceLE, Int.reduceLT, Int.reduceNeg, BitVec.reduceOfInt, List.getElem?_cons_zero, List.getElem?_cons_succ, reduceCtorEq, Bool.false_eq_true, List.flatMap_cons, List.flatMap_nil, List.append_nil, List.nil_append, List.cons_append, List.any_cons, List.any_nil, List.contains_cons, List.contains_nil, Bool.not_true, Bool.not_false, zz] <;> rfl)
    (hl : Nat.blt d n = true := by rfl) : DWcall Γ ops A fs e m n dst g l ts ty pos af (some (j, want)) os R :=
  ⟨DW.no (o := ⟨dst, .call { callee := .value (.func g), args := List.toArray l, argTypes := ts }, ty, pos, af, some (j, want)⟩) rfl hd (hx he) hl k⟩

theorem W.condZ (G : Good P gl Γ) (he : E) (ht : b = true → W P gl w0 ext av x st Q) (hf : b = false → W P gl w0 ext av y st Q)
    (hq : E → opnd Γ st.env q = some (.b b) := by intro zz; simp (disch := omega) only [go_sem, List.take_zero, List.take_succ_cons, and_false, false_and, not_false_eq_true, ↓act, ↓restr_eq, ↓ctx_ty, ↓ctx_fn, ↓put_at, ↓purge_at, mapO, lookN, Option.getD_some, Option.map_some, Option.bind_some, List.length_cons, List.length_nil, List.length_append, List.length_set, List.toList_toArray, ↓reduceIte, ↓reduceDIte, Nat.reduceLT, Nat.reduceLeDiff, Nat.reduceAdd, Nat.reduceMul, Nat.reduceSub, Nat.reduceEqDiff, Nat.reduceBEq, beq_self_eq_true, Bool.true_or, Bool.or_true, and_self, and_true, true_and, not_true_eq_false, decide_true, decide_false, decide_eq_true_eq, Option.isNone_none, Option.isNone_some, List.isEmpty_nil, Option.isSome_some, true_or, or_true, false_or, or_false, Bool.and_true, Bool.true_and, Bool.or_false, Bool.false_or, Bool.not_true, Bool.not_false, Int.reduceLE, Int.reduceLT, Int.reduceNeg, Int.reduceAdd, Int.reduceMul, Int.reduceSub, Int.reduceToNat, BitVec.reduceOfInt, List.getElem?_cons_zero, List.getElem?_cons_succ, reduceCtorEq, Bool.false_eq_true, List.flatMap_cons, List.flatMap_nil, List.append_nil, List.nil_append, List.cons_append, Option.isSome_none, List.set_cons_zero, List.set_cons_succ, List.getD_cons_zero, List.getD_cons_succ, List.size_toArray, u8_lt, u16_lt, u32_lt, List.map_cons, List.map_nil, List.filterMap_nil, List.filterMap_cons, List.head?_nil, List.head?_cons, List.zip_cons_cons, List.zip_nil_left, List.zip_nil_right, List.any_cons, List.any_nil, List.all_cons, List.all_nil, List.contains_cons, List.contains_nil, Int.toNat_natCast, Int.toNat_zero, BitVec.toNat_ofNat, Nat.reducePow, Nat.reduceMod, toN_add, Nat.zero_add, Nat.add_zero, Nat.mul_one, Nat.zero_mul, zz] <;> rfl) : W P gl w0 ext av (.cond q x y) st Q := W.condG G (hq he) ht hf
theorem sL_leZ {D M : List (Nat × V)} {s : St} (he : E) (hn : n = s.n := by rfl)
    (hE : E → okE s.env D := by intro zz; simp (disch := omega) only [okE, go_sem, List.take_zero, List.take_succ_cons, and_false, false_and, not_false_eq_true, ↓act, ↓restr_eq, ↓ctx_ty, ↓ctx_fn, ↓put_at, ↓purge_at, mapO, lookN, Option.getD_some, Option.map_some, Option.bind_some, List.length_cons, List.length_nil, List.length_append, List.length_set, List.toList_toArray, ↓reduceIte, ↓reduceDIte, Nat.reduceLT, Nat.reduceLeDiff, Nat.reduceAdd, Nat.reduceMul, Nat.reduceSub, Nat.reduceEqDiff, Nat.reduceBEq, beq_self_eq_true, Bool.true_or, Bool.or_true, and_self, and_true, true_and, not_true_eq_false, decide_true, decide_false, decide_eq_true_eq, Option.isNone_none, Option.isNone_some, List.isEmpty_nil, Option.isSome_some, true_or, or_true, false_or, or_false, Bool.and_true, Bool.true_and, Bool.or_false, Bool.false_or, Bool.not_true, Bool.not_false, Int.reduceLE, Int.reduceLT, Int.reduceNeg, Int.reduceAdd, Int.reduceMul, Int.reduceSub, Int.reduceToNat, BitVec.reduceOfInt, List.getElem?_cons_zero, List.getElem?_cons_succ, reduceCtorEq, Bool.false_eq_true, List.flatMap_cons, List.flatMap_nil, List.append_nil, List.nil_append, List.cons_append, Option.isSome_none, List.set_cons_zero, List.set_cons_succ, List.getD_cons_zero, List.getD_cons_succ, List.size_toArray, u8_lt, u16_lt, u32_lt, List.map_cons, List.map_nil, List.filterMap_nil, List.filterMap_cons, List.head?_nil, List.head?_cons, List.zip_cons_cons, List.zip_nil_left, List.zip_nil_right, List.any_cons, List.any_nil, List.all_cons, List.all_nil, List.contains_cons, List.contains_nil, Int.toNat_natCast, Int.toNat_zero, BitVec.toNat_ofNat, Nat.reducePow, Nat.reduceMod, toN_add, Nat.zero_add, Nat.add_zero, Nat.mul_one, Nat.zero_mul, zz] <;> (repeat' apply And.intro) <;> (first | rfl | (refine congrArg some (congrArg V.i ?_); omega)))
    (hM : E → okE s.mem M := by intro zz; simp (disch := omega) only [okE, go_sem, List.take_zero, List.take_succ_cons, and_false, false_and, not_false_eq_true, ↓act, ↓restr_eq, ↓ctx_ty, ↓ctx_fn, ↓put_at, ↓purge_at, mapO, lookN, Option.getD_some, Option.map_some, Option.bind_some, List.length_cons, List.length_nil, List.length_append, List.length_set, List.toList_toArray, ↓reduceIte, ↓reduceDIte, Nat.reduceLT, Nat.reduceLeDiff, Nat.reduceAdd, Nat.reduceMul, Nat.reduceSub, Nat.reduceEqDiff, Nat.reduceBEq, beq_self_eq_true, Bool.true_or, Bool.or_true, and_self, and_true, true_and, not_true_eq_false, decide_true, decide_false, decide_eq_true_eq, Option.isNone_none, Option.isNone_some, List.isEmpty_nil, Option.isSome_some, true_or, or_true, false_or, or_false, Bool.and_true, Bool.true_and, Bool.or_false, Bool.false_or, Bool.not_true, Bool.not_false, Int.reduceLE, Int.reduceLT, Int.reduceNeg, Int.reduceAdd, Int.reduceMul, Int.reduceSub, Int.reduceToNat, BitVec.reduceOfInt, List.getElem?_cons_zero, List.getElem?_cons_succ, reduceCtorEq, Bool.false_eq_true, List.flatMap_cons, List.flatMap_nil, List.append_nil, List.nil_append, List.cons_append, Option.isSome_none, List.set_cons_zero, List.set_cons_succ, List.getD_cons_zero, List.getD_cons_succ, List.size_toArray, u8_lt, u16_lt, u32_lt, List.map_cons, List.map_nil, List.filterMap_nil, List.filterMap_cons, List.head?_nil, List.head?_cons, List.zip_cons_cons, List.zip_nil_left, List.zip_nil_right, List.any_cons, List.any_nil, List.all_cons, List.all_nil, List.contains_cons, List.contains_nil, Int.toNat_natCast, Int.toNat_zero, BitVec.toNat_ofNat, Nat.reducePow, Nat.reduceMod, toN_add, Nat.zero_add, Nat.add_zero, Nat.mul_one, Nat.zero_mul, zz] <;> (repeat' apply And.intro) <;> (first | rfl | (refine congrArg some (congrArg V.i ?_); omega))) : (sL D M n).Le s := sL_le hn (hE he) (hM he)
end

section
variable {Γ : Ctx} {fn : Func} {ins outs : List V} {ret : V} {s : St} {ra rb : ResultVar} {v v' w w' r1 r2 : V} {E : Prop} {ex : Exit}
theorem fin0Z (he : E) (hx : ex = .normal ∨ ex = .ret := by simp) (hr : fn.results = #[] := by rfl) (ho : E → mapO s.mem (refKeys 0 ins) = some outs := by intro zz; simp (disch := omega) only [refKeys, go_sem, List.take_zero, List.take_succ_cons, and_false, false_and, not_false_eq_true, ↓act, ↓restr_eq, ↓ctx_ty, ↓ctx_fn, ↓put_at, ↓purge_at, mapO, lookN, Option.getD_some, Option.map_some, Option.bind_some, List.length_cons, List.length_nil, List.length_append, List.length_set, List.toList_toArray, ↓reduceIte, ↓reduceDIte, Nat.reduceLT, Nat.reduceLeDiff, Nat.reduceAdd, Nat.reduceMul, Nat.reduceSub, Nat.reduceEqDiff, Nat.reduceBEq, beq_self_eq_true, Bool.true_or, Bool.or_true, and_self, and_true, true_and, not_true_eq_false, decide_true, decide_false, decide_eq_true_eq, Option.isNone_none, Option.isNone_some, List.isEmpty_nil, Option.isSome_some, true_or, or_true, false_or, or_false, Bool.and_true, Bool.true_and, Bool.or_false, Bool.false_or, Bool.not_true, Bool.not_false, Int.reduceLE, Int.reduceLT, Int.reduceNeg, Int.reduceAdd, Int.reduceMul, Int.reduceSub, Int.reduceToNat, BitVec.reduceOfInt, List.getElem?_cons_zero, List.getElem?_cons_succ, reduceCtorEq, Bool.false_eq_true, List.flatMap_cons, List.flatMap_nil, List.append_nil, List.nil_append, List.cons_append, Option.isSome_none, List.set_cons_zero, List.set_cons_succ, List.getD_cons_zero, List.getD_cons_succ, List.size_toArray, u8_lt, u16_lt, u32_lt, List.map_cons, List.map_nil, List.filterMap_nil, List.filterMap_cons, List.head?_nil, List.head?_cons, List.zip_cons_cons, List.zip_nil_left, List.zip_nil_right, List.any_cons, List.any_nil, List.all_cons, List.all_nil, List.contains_cons, List.contains_nil, Int.toNat_natCast, Int.toNat_zero, BitVec.toNat_ofNat, Nat.reducePow, Nat.reduceMod, toN_add, Nat.zero_add, Nat.add_zero, Nat.mul_one, Nat.zero_mul, zz] <;> rfl) (hp : outs.all plainC = true := by rfl) :
    (ex = .normal ∨ ex = .ret) ∧ Answers Γ fn ins (.tup []) outs s := ⟨hx, answers0 hr (ho he) hp⟩
theorem fin1Z (he : E) (h3 : LeV v' ret) (hx : ex = .normal ∨ ex = .ret := by simp) (hr : fn.results = #[ra] := by rfl)
    (h1 : E → resV Γ s ra = some v := by intro zz; simp (disch := omega) only [resV, go_sem, List.take_zero, List.take_succ_cons, and_false, false_and, not_false_eq_true, ↓act, ↓restr_eq, ↓ctx_ty, ↓ctx_fn, ↓put_at, ↓purge_at, mapO, lookN, Option.getD_some, Option.map_some, Option.bind_some, List.length_cons, List.length_nil, List.length_append, List.length_set, List.toList_toArray, ↓reduceIte, ↓reduceDIte, Nat.reduceLT, Nat.reduceLeDiff, Nat.reduceAdd, Nat.reduceMul, Nat.reduceSub, Nat.reduceEqDiff, Nat.reduceBEq, beq_self_eq_true, Bool.true_or, Bool.or_true, and_self, and_true, true_and, not_true_eq_false, decide_true, decide_false, decide_eq_true_eq, Option.isNone_none, Option.isNone_some, List.isEmpty_nil, Option.isSome_some, true_or, or_true, false_or, or_false, Bool.and_true, Bool.true_and, Bool.or_false, Bool.false_or, Bool.not_true, Bool.not_false, Int.reduceLE, Int.reduceLT, Int.reduceNeg, Int.reduceAdd, Int.reduceMul, Int.reduceSub, Int.reduceToNat, BitVec.reduceOfInt, List.getElem?_cons_zero, List.getElem?_cons_succ, reduceCtorEq, Bool.false_eq_true, List.flatMap_cons, List.flatMap_nil, List.append_nil, List.nil_append, List.cons_append, Option.isSome_none, List.set_cons_zero, List.set_cons_succ, List.getD_cons_zero, List.getD_cons_succ, List.size_toArray, u8_lt, u16_lt, u32_lt, List.map_cons, List.map_nil, List.filterMap_nil, List.filterMap_cons, List.head?_nil, List.head?_cons, List.zip_cons_cons, List.zip_nil_left, List.zip_nil_right, List.any_cons, List.any_nil, List.all_cons, List.all_nil, List.contains_cons, List.contains_nil, Int.toNat_natCast, Int.toNat_zero, BitVec.toNat_ofNat, Nat.reducePow, Nat.reduceMod, toN_add, Nat.zero_add, Nat.add_zero, Nat.mul_one, Nat.zero_mul, zz] <;> rfl)
    (h2 : E → normV s.mem v = some v' := by intro zz; simp (disch := omega) only [normV, go_sem, List.take_zero, List.take_succ_cons, and_false, false_and, not_false_eq_true, ↓act, ↓restr_eq, ↓ctx_ty, ↓ctx_fn, ↓put_at, ↓purge_at, mapO, lookN, Option.getD_some, Option.map_some, Option.bind_some, List.length_cons, List.length_nil, List.length_append, List.length_set, List.toList_toArray, ↓reduceIte, ↓reduceDIte, Nat.reduceLT, Nat.reduceLeDiff, Nat.reduceAdd, Nat.reduceMul, Nat.reduceSub, Nat.reduceEqDiff, Nat.reduceBEq, beq_self_eq_true, Bool.true_or, Bool.or_true, and_self, and_true, true_and, not_true_eq_false, decide_true, decide_false, decide_eq_true_eq, Option.isNone_none, Option.isNone_some, List.isEmpty_nil, Option.isSome_some, true_or, or_true, false_or, or_false, Bool.and_true, Bool.true_and, Bool.or_false, Bool.false_or, Bool.not_true, Bool.not_false, Int.reduceLE, Int.reduceLT, Int.reduceNeg, Int.reduceAdd, Int.reduceMul, Int.reduceSub, Int.reduceToNat, BitVec.reduceOfInt, List.getElem?_cons_zero, List.getElem?_cons_succ, reduceCtorEq, Bool.false_eq_true, List.flatMap_cons, List.flatMap_nil, List.append_nil, List.nil_append, List.cons_append, Option.isSome_none, List.set_cons_zero, List.set_cons_succ, List.getD_cons_zero, List.getD_cons_succ, List.size_toArray, u8_lt, u16_lt, u32_lt, List.map_cons, List.map_nil, List.filterMap_nil, List.filterMap_cons, List.head?_nil, List.head?_cons, List.zip_cons_cons, List.zip_nil_left, List.zip_nil_right, List.any_cons, List.any_nil, List.all_cons, List.all_nil, List.contains_cons, List.contains_nil, Int.toNat_natCast, Int.toNat_zero, BitVec.toNat_ofNat, Nat.reducePow, Nat.reduceMod, toN_add, Nat.zero_add, Nat.add_zero, Nat.mul_one, Nat.zero_mul, zz] <;> rfl)
    (ho : E → mapO s.mem (refKeys 0 ins) = some outs := by intro zz; simp (disch := omega) only [refKeys, go_sem, List.take_zero, List.take_succ_cons, and_false, false_and, not_false_eq_true, ↓act, ↓restr_eq, ↓ctx_ty, ↓ctx_fn, ↓put_at, ↓purge_at, mapO, lookN, Option.getD_some, Option.map_some, Option.bind_some, List.length_cons, List.length_nil, List.length_append, List.length_set, List.toList_toArray, ↓reduceIte, ↓reduceDIte, Nat.reduceLT, Nat.reduceLeDiff, Nat.reduceAdd, Nat.reduceMul, Nat.reduceSub, Nat.reduceEqDiff, Nat.reduceBEq, beq_self_eq_true, Bool.true_or, Bool.or_true, and_self, and_true, true_and, not_true_eq_false, decide_true, decide_false, decide_eq_true_eq, Option.isNone_none, Option.isNone_some, List.isEmpty_nil, Option.isSome_some, true_or, or_true, false_or, or_false, Bool.and_true, Bool.true_and, Bool.or_false, Bool.false_or, Bool.not_true, Bool.not_false, Int.reduceLE, Int.reduceLT, Int.reduceNeg, Int.reduceAdd, Int.reduceMul, Int.reduceSub, Int.reduceToNat, BitVec.reduceOfInt, List.getElem?_cons_zero, List.getElem?_cons_succ, reduceCtorEq, Bool.false_eq_true, List.flatMap_cons, List.flatMap_nil, List.append_nil, List.nil_append, List.cons_append, Option.isSome_none, List.set_cons_zero, List.set_cons_succ, List.getD_cons_zero, List.getD_cons_succ, List.size_toArray, u8_lt, u16_lt, u32_lt, List.map_cons, List.map_nil, List.filterMap_nil, List.filterMap_cons, List.head?_nil, List.head?_cons, List.zip_cons_cons, List.zip_nil_left, List.zip_nil_right, List.any_cons, List.any_nil, List.all_cons, List.all_nil, List.contains_cons, List.contains_nil, Int.toNat_natCast, Int.toNat_zero, BitVec.toNat_ofNat, Nat.reducePow, Nat.reduceMod, toN_add, Nat.zero_add, Nat.add_zero, Nat.mul_one, Nat.zero_mul, zz] <;> rfl) (hp : outs.all plainC = true := by rfl) :
    (ex = .normal ∨ ex = .ret) ∧ Answers Γ fn ins ret outs s := ⟨hx, answers1 hr (h1 he) (h2 he) h3 (ho he) hp⟩
theorem fin2Z (he : E) (h3 : LeV v' r1) (k3 : LeV w' r2) (hx : ex = .normal ∨ ex = .ret := by simp) (hr : fn.results = #[ra, rb] := by rfl)
    (h1 : E → resV Γ s ra = some v := by intro zz; simp (disch := omega) only [resV, go_sem, List.take_zero, List.take_succ_cons, and_false, false_and, not_false_eq_true, ↓act, ↓restr_eq, ↓ctx_ty, ↓ctx_fn, ↓put_at, ↓purge_at, mapO, lookN, Option.getD_some, Option.map_some, Option.bind_some, List.length_cons, List.length_nil, List.length_append, List.length_set, List.toList_toArray, ↓reduceIte, ↓reduceDIte, Nat.reduceLT, Nat.reduceLeDiff, Nat.reduceAdd, Nat.reduceMul, Nat.reduceSub, Nat.reduceEqDiff, Nat.reduceBEq, beq_self_eq_true, Bool.true_or, Bool.or_true, and_self, and_true, true_and, not_true_eq_false, decide_true, decide_false, decide_eq_true_eq, Option.isNone_none, Option.isNone_some, List.isEmpty_nil, Option.isSome_some, true_or, or_true, false_or, or_false, Bool.and_true, Bool.true_and, Bool.or_false, Bool.false_or, Bool.not_true, Bool.not_false, Int.reduceLE, Int.reduceLT, Int.reduceNeg, Int.reduceAdd, Int.reduceMul, Int.reduceSub, Int.reduceToNat, BitVec.reduceOfInt, List.getElem?_cons_zero, List.getElem?_cons_succ, reduceCtorEq, Bool.false_eq_true, List.flatMap_cons, List.flatMap_nil, List.append_nil, List.nil_append, List.cons_append, Option.isSome_none, List.set_cons_zero, List.set_cons_succ, List.getD_cons_zero, List.getD_cons_succ, List.size_toArray, u8_lt, u16_lt, u32_lt, List.map_cons, List.map_nil, List.filterMap_nil, List.filterMap_cons, List.head?_nil, List.head?_cons, List.zip_cons_cons, List.zip_nil_left, List.zip_nil_right, List.any_cons, List.any_nil, List.all_cons, List.all_nil, List.contains_cons, List.contains_nil, Int.toNat_natCast, Int.toNat_zero, BitVec.toNat_ofNat, Nat.reducePow, Nat.reduceMod, toN_add, Nat.zero_add, Nat.add_zero, Nat.mul_one, Nat.zero_mul, zz] <;> rfl)
    (h2 : E → normV s.mem v = some v' := by intro zz; simp (disch := omega) only [normV, go_sem, List.take_zero, List.take_succ_cons, and_false, false_and, not_false_eq_true, ↓act, ↓restr_eq, ↓ctx_ty, ↓ctx_fn, ↓put_at, ↓purge_at, mapO, lookN, Option.getD_some, Option.map_some, Option.bind_some, List.length_cons, List.length_nil, List.length_append, List.length_set, List.toList_toArray, ↓reduceIte, ↓reduceDIte, Nat.reduceLT, Nat.reduceLeDiff, Nat.reduceAdd, Nat.reduceMul, Nat.reduceSub, Nat.reduceEqDiff, Nat.reduceBEq, beq_self_eq_true, Bool.true_or, Bool.or_true, and_self, and_true, true_and, not_true_eq_false, decide_true, decide_false, decide_eq_true_eq, Option.isNone_none, Option.isNone_some, List.isEmpty_nil, Option.isSome_some, true_or, or_true, false_or, or_false, Bool.and_true, Bool.true_and, Bool.or_false, Bool.false_or, Bool.not_true, Bool.not_false, Int.reduceLE, Int.reduceLT, Int.reduceNeg, Int.reduceAdd, Int.reduceMul, Int.reduceSub, Int.reduceToNat, BitVec.reduceOfInt, List.getElem?_cons_zero, List.getElem?_cons_succ, reduceCtorEq, Bool.false_eq_true, List.flatMap_cons, List.flatMap_nil, List.append_nil, List.nil_append, List.cons_append, Option.isSome_none, List.set_cons_zero, List.set_cons_succ, List.getD_cons_zero, List.getD_cons_succ, List.size_toArray, u8_lt, u16_lt, u32_lt, List.map_cons, List.map_nil, List.filterMap_nil, List.filterMap_cons, List.head?_nil, List.head?_cons, List.zip_cons_cons, List.zip_nil_left, List.zip_nil_right, List.any_cons, List.any_nil, List.all_cons, List.all_nil, List.contains_cons, List.contains_nil, Int.toNat_natCast, Int.toNat_zero, BitVec.toNat_ofNat, Nat.reducePow, Nat.reduceMod, toN_add, Nat.zero_add, Nat.add_zero, Nat.mul_one, Nat.zero_mul, zz] <;> rfl)
    (k1 : E → resV Γ s rb = some w := by intro zz; simp (disch := omega) only [resV, go_sem, List.take_zero, List.take_succ_cons, and_false, false_and, not_false_eq_true, ↓act, ↓restr_eq, ↓ctx_ty, ↓ctx_fn, ↓put_at, ↓purge_at, mapO, lookN, Option.getD_some, Option.map_some, Option.bind_some, List.length_cons, List.length_nil, List.length_append, List.length_set, List.toList_toArray, ↓reduceIte, ↓reduceDIte, Nat.reduceLT, Nat.reduceLeDiff, Nat.reduceAdd, Nat.reduceMul, Nat.reduceSub, Nat.reduceEqDiff, Nat.reduceBEq, beq_self_eq_true, Bool.true_or, Bool.or_true, and_self, and_true, true_and, not_true_eq_false, decide_true, decide_false, decide_eq_true_eq, Option.isNone_none, Option.isNone_some, List.isEmpty_nil, Option.isSome_some, true_or, or_true, false_or, or_false, Bool.and_true, Bool.true_and, Bool.or_false, Bool.false_or, Bool.not_true, Bool.not_false, Int.reduceLE, Int.reduceLT, Int.reduceNeg, Int.reduceAdd, Int.reduceMul, Int.reduceSub, Int.reduceToNat, BitVec.reduceOfInt, List.getElem?_cons_zero, List.getElem?_cons_succ, reduceCtorEq, Bool.false_eq_true, List.flatMap_cons, List.flatMap_nil, List.append_nil, List.nil_append, List.cons_append, Option.isSome_none, List.set_cons_zero, List.set_cons_succ, List.getD_cons_zero, List.getD_cons_succ, List.size_toArray, u8_lt, u16_lt, u32_lt, List.map_cons, List.map_nil, List.filterMap_nil, List.filterMap_cons, List.head?_nil, List.head?_cons, List.zip_cons_cons, List.zip_nil_left, List.zip_nil_right, List.any_cons, List.any_nil, List.all_cons, List.all_nil, List.contains_cons, List.contains_nil, Int.toNat_natCast, Int.toNat_zero, BitVec.toNat_ofNat, Nat.reducePow, Nat.reduceMod, toN_add, Nat.zero_add, Nat.add_zero, Nat.mul_one, Nat.zero_mul, zz] <;> rfl)
    (k2 : E → normV s.mem w = some w' := by intro zz; simp (disch := omega) only [normV, go_sem, List.take_zero, List.take_succ_cons, and_false, false_and, not_false_eq_true, ↓act, ↓restr_eq, ↓ctx_ty, ↓ctx_fn, ↓put_at, ↓purge_at, mapO, lookN, Option.getD_some, Option.map_some, Option.bind_some, List.length_cons, List.length_nil, List.length_append, List.length_set, List.toList_toArray, ↓reduceIte, ↓reduceDIte, Nat.reduceLT, Nat.reduceLeDiff, Nat.reduceAdd, Nat.reduceMul, Nat.reduceSub, Nat.reduceEqDiff, Nat.reduceBEq, beq_self_eq_true, Bool.true_or, Bool.or_true, and_self, and_true, true_and, not_true_eq_false, decide_true, decide_false, decide_eq_true_eq, Option.isNone_none, Option.isNone_some, List.isEmpty_nil, Option.isSome_some, true_or, or_true, false_or, or_false, Bool.and_true, Bool.true_and, Bool.or_false, Bool.false_or, Bool.not_true, Bool.not_false, Int.reduceLE, Int.reduceLT, Int.reduceNeg, Int.reduceAdd, Int.reduceMul, Int.reduceSub, Int.reduceToNat, BitVec.reduceOfInt, List.getElem?_cons_zero, List.getElem?_cons_succ, reduceCtorEq, Bool.false_eq_true, List.flatMap_cons, List.flatMap_nil, List.append_nil, List.nil_append, List.cons_append, Option.isSome_none, List.set_cons_zero, List.set_cons_succ, List.getD_cons_zero, List.getD_cons_succ, List.size_toArray, u8_lt, u16_lt, u32_lt, List.map_cons, List.map_nil, List.filterMap_nil, List.filterMap_cons, List.head?_nil, List.head?_cons, List.zip_cons_cons, List.zip_nil_left, List.zip_nil_right, List.any_cons, List.any_nil, List.all_cons, List.all_nil, List.contains_cons, List.contains_nil, Int.toNat_natCast, Int.toNat_zero, BitVec.toNat_ofNat, Nat.reducePow, Nat.reduceMod, toN_add, Nat.zero_add, Nat.add_zero, Nat.mul_one, Nat.zero_mul, zz] <;> rfl)
    (hn : newOf1 r1 = none ∧ newOf1 r2 = none ∧ noSt r1 = true ∧ noSt r2 = true := by exact ⟨rfl, rfl, rfl, rfl⟩)
    (ho : E → mapO s.mem (refKeys 0 ins) = some outs := by intro zz; simp (disch := omega) only [refKeys, go_sem, List.take_zero, List.take_succ_cons, and_false, false_and, not_false_eq_true, ↓act, ↓restr_eq, ↓ctx_ty, ↓ctx_fn, ↓put_at, ↓purge_at, mapO, lookN, Option.getD_some, Option.map_some, Option.bind_some, List.length_cons, List.length_nil, List.length_append, List.length_set, List.toList_toArray, ↓reduceIte, ↓reduceDIte, Nat.reduceLT, Nat.reduceLeDiff, Nat.reduceAdd, Nat.reduceMul, Nat.reduceSub, Nat.reduceEqDiff, Nat.reduceBEq, beq_self_eq_true, Bool.true_or, Bool.or_true, and_self, and_true, true_and, not_true_eq_false, decide_true, decide_false, decide_eq_true_eq, Option.isNone_none, Option.isNone_some, List.isEmpty_nil, Option.isSome_some, true_or, or_true, false_or, or_false, Bool.and_true, Bool.true_and, Bool.or_false, Bool.false_or, Bool.not_true, Bool.not_false, Int.reduceLE, Int.reduceLT, Int.reduceNeg, Int.reduceAdd, Int.reduceMul, Int.reduceSub, Int.reduceToNat, BitVec.reduceOfInt, List.getElem?_cons_zero, List.getElem?_cons_succ, reduceCtorEq, Bool.false_eq_true, List.flatMap_cons, List.flatMap_nil, List.append_nil, List.nil_append, List.cons_append, Option.isSome_none, List.set_cons_zero, List.set_cons_succ, List.getD_cons_zero, List.getD_cons_succ, List.size_toArray, u8_lt, u16_lt, u32_lt, List.map_cons, List.map_nil, List.filterMap_nil, List.filterMap_cons, List.head?_nil, List.head?_cons, List.zip_cons_cons, List.zip_nil_left, List.zip_nil_right, List.any_cons, List.any_nil, List.all_cons, List.all_nil, List.contains_cons, List.contains_nil, Int.toNat_natCast, Int.toNat_zero, BitVec.toNat_ofNat, Nat.reducePow, Nat.reduceMod, toN_add, Nat.zero_add, Nat.add_zero, Nat.mul_one, Nat.zero_mul, zz] <;> rfl) (hp : outs.all plainC = true := by rfl) :
    (ex = .normal ∨ ex = .ret) ∧ Answers Γ fn ins (.tup [r1, r2]) outs s := ⟨hx, answers2 hr (h1 he) (h2 he) h3 (k1 he) (k2 he) k3 hn (ho he) hp⟩
end
end Go.Vm

/- What came in, opened by its type; from a law's function to its row. -/
namespace Go.Vm
open Go Go.RowKit Go.ChangeShapes
set_option linter.unusedVariables false

theorem wf_u {wd : Nat} {n : Int} (hw : okW wd) (h : (Lit.int (kw wd) n).wf = true) : ∃ y : BitVec wd, n = (y.toNat : Int) := by
  have : 0 ≤ n ∧ n < 2 ^ wd := by
    rcases hw with rfl | rfl | rfl | rfl <;> simp [kw, Lit.wf, IntKind.min, IntKind.max, IntKind.bits, IntKind.signed] at h <;> omega
  refine ⟨BitVec.ofInt wd n, ?_⟩
  rw [BitVec.toNat_ofInt]
  rw [Int.emod_eq_of_lt this.1 (by simpa using this.2)]
  omega
theorem wf_i {n : Int} (h : (Lit.int .i64 n).wf = true) : inR n := by
  simp [Lit.wf, IntKind.min, IntKind.max, IntKind.bits, IntKind.signed] at h
  unfold inR
  omega

section
variable {P : Program} {m t : Nat} {ty : Ty}

theorem tyOf_cells (h : tyOf P m t = some ty) : P.cellsOf t = ty.size := by
  obtain ⟨i, h1, h2, _⟩ := tyOf_info h
  simp [Program.cellsOf, h1, h2]

theorem at_u {n wd : Nat} {r : Nat → Option Ty} (h : tyAt P n r t = some (.u wd)) : P.underlying t = some (.int (kw wd)) ∧ okW wd := by
  unfold tyAt at h
  split at h <;> first | (cases h; refine ⟨by assumption, ?_⟩; simp [okW]; done) | skip
  all_goals first | (cases h; done) | (split at h <;> first | (cases h; done) | (split at h <;> cases h))
theorem at_i {n : Nat} {r : Nat → Option Ty} (h : tyAt P n r t = some .i) : P.underlying t = some (.int .i64) := by
  unfold tyAt at h
  split at h <;> first | (cases h; assumption; done) | skip
  all_goals first | (cases h; done) | (split at h <;> first | (cases h; done) | (split at h <;> cases h))
theorem at_b {n : Nat} {r : Nat → Option Ty} (h : tyAt P n r t = some .b) : P.underlying t = some .bool := by
  unfold tyAt at h
  split at h <;> first | (cases h; assumption; done) | skip
  all_goals first | (cases h; done) | (split at h <;> first | (cases h; done) | (split at h <;> cases h))
theorem at_s {n : Nat} {r : Nat → Option Ty} (h : tyAt P n r t = some .s) : P.underlying t = some .string := by
  unfold tyAt at h
  split at h <;> first | (cases h; assumption; done) | skip
  all_goals first | (cases h; done) | (split at h <;> first | (cases h; done) | (split at h <;> cases h))
theorem at_arr {n k : Nat} {e : Ty} {r : Nat → Option Ty} (h : tyAt P n r t = some (.arr k e)) : ∃ u, P.underlying t = some (.array k u) ∧ r u = some e := by
  unfold tyAt at h
  split at h <;> first | (cases h; done) | skip
  · split at h <;> cases h
  · rename_i k' u hu
    split at h
    · rename_i t' ht'
      split at h
      · cases h; exact ⟨u, hu, ht'⟩
      · cases h
    · cases h
  · split at h
    · split at h <;> cases h
    · cases h
theorem at_sl {n : Nat} {e : Ty} {r : Nat → Option Ty} (h : tyAt P n r t = some (.sl e)) : ∃ u, P.underlying t = some (.slice u) ∧ r u = some e := by
  unfold tyAt at h
  split at h <;> first | (cases h; done) | skip
  · rename_i u hu
    split at h
    · rename_i t' ht'
      cases h; exact ⟨u, hu, ht'⟩
    · cases h
  · split at h
    · split at h <;> cases h
    · cases h
  · split at h
    · split at h <;> cases h
    · cases h
theorem at_st {n : Nat} {ts : List Ty} {r : Nat → Option Ty} (h : tyAt P n r t = some (.st ts)) : ∃ fs : Array Field, P.underlying t = some (.struct fs) ∧ mapO' (fun f => r f.type) fs.toList = some ts ∧ fieldsFit P 0 ts fs.toList = true := by
  unfold tyAt at h
  split at h <;> first | (cases h; done) | skip
  · split at h <;> cases h
  · split at h
    · split at h <;> cases h
    · cases h
  · rename_i fs hu
    split at h
    · rename_i ts' hts
      split at h
      · cases h; exact ⟨fs, hu, hts, by assumption⟩
      · cases h
    · cases h
end

/-- where nothing may be written -/
def c0 (w : World) : Cx := { φ := fun _ => none, N := fun _ => False, base := w.heap.size }

mutual
def flatD {H : Type} : DataW H → List Value
  | .lit (.int k n) => [.int k n]
  | .agg ds => flatDs ds
  | _ => []
def flatDs {H : Type} : List (DataW H) → List Value
  | [] => []
  | d :: ds => flatD d ++ flatDs ds
end

theorem flatten_slices {α : Type} (k : Nat) : ∀ (n : Nat) (cs : List α), cs.length = n * k → cs = ((List.range n).map fun i => (cs.drop (i * k)).take k).flatten := by
  intro n
  induction n with
  | zero => intro cs h; simp at h; simp [h]
  | succ n ih =>
    intro cs h
    have h' : (cs.take (n * k)).length = n * k := by rw [List.length_take, h]; exact Nat.min_eq_left (Nat.mul_le_mul_right k (Nat.le_succ n))
    rw [List.range_succ, List.map_append, List.flatten_append]
    have e1 : ((List.range n).map fun i => (cs.drop (i * k)).take k) = (List.range n).map fun i => ((cs.take (n * k)).drop (i * k)).take k := by
      apply List.map_congr_left
      intro i hi
      have hi' : i < n := List.mem_range.1 hi
      rw [List.drop_take, List.take_take]
      congr 1
      have : (i + 1) * k ≤ n * k := Nat.mul_le_mul_right k hi'
      rw [Nat.add_mul] at this
      omega
    rw [e1, ← ih _ h']
    simp only [List.map_cons, List.map_nil, List.flatten_cons, List.flatten_nil, List.append_nil]
    have e2 : (cs.drop (n * k)).take k = cs.drop (n * k) := List.take_of_length_le (by rw [List.length_drop, h, Nat.add_mul]; omega)
    rw [e2]
    exact (List.take_append_drop (n * k) cs).symm

section
variable {H : Type} {enc : TypeId × Value → H} {P : Program} {w : World} {base : Nat} {spare : Nat → Bool} {held : Bool}

/-- an array's cells, one element behind the other -/
theorem arr_parts {n : Nat} {e : TypeId} {fuel t : Nat} {cs : List Value} {x : DataW H × List MemPlace} (ht : P.underlying t = some (.array n e)) (hsz : P.cellsOf t = n * P.cellsOf e) (h : DataW.trod enc P w base spare held fuel t cs = some x) :
    ∃ (xs : List (DataW H × List MemPlace)) (m : Nat), x.1 = .agg (xs.map (·.1)) ∧ xs.length = n ∧ cs = ((List.range n).map fun i => (cs.drop (i * P.cellsOf e)).take (P.cellsOf e)).flatten ∧
      ∀ (i : Nat), i < n → DataW.trod enc P w base spare held m e ((cs.drop (i * P.cellsOf e)).take (P.cellsOf e)) = xs[i]? := by
  obtain ⟨xs, m, rfl, rfl, hl, hn, hel⟩ := DataW.trod_array ht h
  exact ⟨xs, m, rfl, hn, flatten_slices _ _ _ (by rw [hl, hsz]), hel⟩

theorem flatDs_of {l : List (DataW H)} {f : Nat → List Value} (h : ∀ i (d : DataW H), l[i]? = some d → flatD d = f i) : flatDs l = ((List.range l.length).map f).flatten := by
  induction l generalizing f with
  | nil => rfl
  | cons d l ih =>
    rw [flatDs, h 0 d rfl, ih (f := fun i => f (i + 1)) (fun i d' hd => h (i + 1) d' (by simpa using hd)), List.length_cons, List.range_succ_eq_map]
    simp only [List.map_cons, List.flatten_cons, List.map_map]
    rfl

theorem trod_root_u {wd : Nat} (hw : okW wd) : ∀ (m : Nat) {t : Nat} {ty : Ty} {fuel : Nat} {cs : List Value} {x : DataW H × List MemPlace}, tyOf P m t = some ty → ty.root = .u wd → DataW.trod enc P w base spare held fuel t cs = some x →
    ∃ xs : List (BitVec wd), xs.length = ty.size ∧ cs = xs.map (ic wd) ∧ flatD x.1 = cs := by
  intro m
  induction m with
  | zero => intro t ty fuel cs x h; cases h
  | succ m ih =>
    intro t ty fuel cs x h hr hx
    obtain ⟨m', hm, ha, _⟩ := tyOf_at h
    cases hm
    cases ty with
    | u w' =>
      cases hr
      obtain ⟨hu, _⟩ := at_u ha
      obtain ⟨n, rfl, rfl, hwf⟩ := DataW.trod_int hu hx
      obtain ⟨y, rfl⟩ := wf_u hw hwf
      exact ⟨[y], rfl, rfl, rfl⟩
    | arr k e =>
      obtain ⟨u, hu, he⟩ := at_arr ha
      obtain ⟨xs, mm, hx1, hn, hcs, hel⟩ := arr_parts hu (by rw [tyOf_cells h, tyOf_cells he]; rfl) hx
      have each : ∀ i, i < k → ∃ ys : List (BitVec wd), ys.length = e.size ∧ ((cs.drop (i * P.cellsOf u)).take (P.cellsOf u)) = ys.map (ic wd) ∧ ∀ y, xs[i]? = some y → flatD y.1 = ((cs.drop (i * P.cellsOf u)).take (P.cellsOf u)) := by
        intro i hi
        have hlt : i < xs.length := by omega
        have h1 := hel i hi
        rw [List.getElem?_eq_getElem hlt] at h1
        obtain ⟨ys, h2, h3, h4⟩ := ih he (by simpa [Ty.root] using hr) h1
        exact ⟨ys, h2, h3, fun y hy => by rw [List.getElem?_eq_getElem hlt] at hy; cases hy; exact h4⟩
      · let ys : Nat → List (BitVec wd) := fun i => if hi : i < k then Classical.choose (each i hi) else []
        have hys : ∀ i (hi : i < k), (ys i).length = e.size ∧ ((cs.drop (i * P.cellsOf u)).take (P.cellsOf u)) = (ys i).map (ic wd) := by
          intro i hi
          have := Classical.choose_spec (each i hi)
          simp only [ys, dif_pos hi]
          exact ⟨this.1, this.2.1⟩
        have hcs' : cs = (((List.range k).map ys).flatten).map (ic wd) := by
          rw [hcs, List.map_flatten, List.map_map]
          congr 1
          apply List.map_congr_left
          intro i hi
          exact (hys i (List.mem_range.1 hi)).2
        refine ⟨((List.range k).map ys).flatten, ?_, hcs', ?_⟩
        · have := congrArg List.length hcs'
          rw [List.length_map] at this
          rw [← this]
          obtain ⟨_, _, _, _, hl, _⟩ := DataW.trod_array hu hx
          rw [hl, tyOf_cells h]
        · rw [hx1, flatD, flatDs_of (f := fun i => ((cs.drop (i * P.cellsOf u)).take (P.cellsOf u)))]
          · rw [List.length_map, hn]; exact hcs.symm
          · intro i d hd
            rw [List.getElem?_map, Option.map_eq_some_iff] at hd
            obtain ⟨y, hy, rfl⟩ := hd
            have hi : i < k := by have := (List.getElem?_eq_some_iff.1 hy).1; omega
            obtain ⟨_, _, _, h5⟩ := each i hi
            exact h5 y hy
    | _ => first | (cases hr; done) | (simp [Ty.root] at hr; done)
theorem trod_root_i : ∀ (m : Nat) {t : Nat} {ty : Ty} {fuel : Nat} {cs : List Value} {x : DataW H × List MemPlace}, tyOf P m t = some ty → ty.root = .i → DataW.trod enc P w base spare held fuel t cs = some x →
    ∃ xs : List Int, xs.length = ty.size ∧ cs = xs.map ii ∧ (∀ y ∈ xs, inR y) ∧ flatD x.1 = cs := by
  intro m
  induction m with
  | zero => intro t ty fuel cs x h; cases h
  | succ m ih =>
    intro t ty fuel cs x h hr hx
    obtain ⟨m', hm, ha, _⟩ := tyOf_at h
    cases hm
    cases ty with
    | i =>
      have hu := at_i ha
      obtain ⟨n, rfl, rfl, hwf⟩ := DataW.trod_int hu hx
      exact ⟨[n], rfl, rfl, by intro y hy; simp at hy; subst hy; exact wf_i hwf, rfl⟩
    | arr k e =>
      obtain ⟨u, hu, he⟩ := at_arr ha
      obtain ⟨xs, mm, hx1, hn, hcs, hel⟩ := arr_parts hu (by rw [tyOf_cells h, tyOf_cells he]; rfl) hx
      have each : ∀ i, i < k → ∃ ys : List Int, ys.length = e.size ∧ ((cs.drop (i * P.cellsOf u)).take (P.cellsOf u)) = ys.map ii ∧ (∀ y ∈ ys, inR y) ∧ ∀ y, xs[i]? = some y → flatD y.1 = ((cs.drop (i * P.cellsOf u)).take (P.cellsOf u)) := by
        intro i hi
        have hlt : i < xs.length := by omega
        have h1 := hel i hi
        rw [List.getElem?_eq_getElem hlt] at h1
        obtain ⟨ys, h2, h3, hin, h4⟩ := ih he (by simpa [Ty.root] using hr) h1
        exact ⟨ys, h2, h3, hin, fun y hy => by rw [List.getElem?_eq_getElem hlt] at hy; cases hy; exact h4⟩
      · let ys : Nat → List Int := fun i => if hi : i < k then Classical.choose (each i hi) else []
        have hys : ∀ i (hi : i < k), (ys i).length = e.size ∧ ((cs.drop (i * P.cellsOf u)).take (P.cellsOf u)) = (ys i).map ii ∧ ∀ y ∈ ys i, inR y := by
          intro i hi
          have := Classical.choose_spec (each i hi)
          simp only [ys, dif_pos hi]
          exact ⟨this.1, this.2.1, this.2.2.1⟩
        have hcs' : cs = (((List.range k).map ys).flatten).map ii := by
          rw [hcs, List.map_flatten, List.map_map]
          congr 1
          apply List.map_congr_left
          intro i hi
          exact (hys i (List.mem_range.1 hi)).2.1
        refine ⟨((List.range k).map ys).flatten, ?_, hcs', ?_, ?_⟩
        · have := congrArg List.length hcs'
          rw [List.length_map] at this
          rw [← this]
          obtain ⟨_, _, _, _, hl, _⟩ := DataW.trod_array hu hx
          rw [hl, tyOf_cells h]
        · intro y hy
          obtain ⟨l, hl, hy⟩ := List.mem_flatten.1 hy
          obtain ⟨i, hi, rfl⟩ := List.mem_map.1 hl
          exact (hys i (List.mem_range.1 hi)).2.2 y hy
        · rw [hx1, flatD, flatDs_of (f := fun i => ((cs.drop (i * P.cellsOf u)).take (P.cellsOf u)))]
          · rw [List.length_map, hn]; exact hcs.symm
          · intro i d hd
            rw [List.getElem?_map, Option.map_eq_some_iff] at hd
            obtain ⟨y, hy, rfl⟩ := hd
            have hi : i < k := by have := (List.getElem?_eq_some_iff.1 hy).1; omega
            obtain ⟨_, _, _, _, h5⟩ := each i hi
            exact h5 y hy
    | _ => first | (cases hr; done) | (simp [Ty.root] at hr; done)

theorem trod_flat {m t : Nat} {ty : Ty} {fuel : Nat} {cs : List Value} {x : DataW H × List MemPlace} (h : tyOf P m t = some ty) (hr : ty.root = .i ∨ ∃ wd, okW wd ∧ ty.root = .u wd) (hx : DataW.trod enc P w base spare held fuel t cs = some x) : flatD x.1 = cs := by
  rcases hr with hr | ⟨wd, hw, hr⟩
  · obtain ⟨_, _, _, _, h1⟩ := trod_root_i m h hr hx; exact h1
  · obtain ⟨_, _, _, h1⟩ := trod_root_u hw m h hr hx; exact h1

/-- the shape of what came in -/
def Opened : Ty → V → Prop
  | .u wd, x => ∃ y : BitVec wd, x = .u wd y
  | .i, x => ∃ n, x = .i n
  | .b, x => ∃ b, x = .b b
  | .arr k e, x => match e.root with
    | .u wd => ∃ xs : List (BitVec wd), xs.length = k * e.size ∧ x = .agg (k * e.size) (.u wd xs)
    | _ => False
  | _, _ => False

/-- what is opened by its cells alone -/
def plainTy : Ty → Bool
  | .u w => okU w
  | .i => true
  | .b => true
  | .arr _ e => match e.root with
    | .u w => okU w
    | _ => false
  | _ => false

theorem okU_okW {w : Nat} (h : okU w = true) : okW w := by
  simp only [okU, Bool.or_eq_true, beq_iff_eq] at h
  unfold okW
  omega

theorem open1 {m t : Nat} {ty : Ty} {fuel : Nat} {cs : List Value} {x : DataW H × List MemPlace} {c : Cx} {w' : World} (h : tyOf P m t = some ty) (hp : plainTy ty = true) (hx : DataW.trod enc P w base spare held fuel t cs = some x) : ∃ v, Opened ty v ∧ FRel c w' v cs := by
  have h0 := h
  obtain ⟨m', hm, ha, _⟩ := tyOf_at h
  cases ty with
  | u wd =>
    obtain ⟨xs, h1, h2, _⟩ := trod_root_u (okU_okW hp) m h rfl hx
    match xs, h1 with
    | [y], _ => exact ⟨.u wd y, ⟨y, rfl⟩, okU_okW hp, h2⟩
  | i =>
    obtain ⟨xs, h1, h2, h3, _⟩ := trod_root_i m h rfl hx
    match xs, h1, h3 with
    | [y], _, h3 => exact ⟨.i y, ⟨y, rfl⟩, h3 y (by simp), h2⟩
  | b =>
    obtain ⟨y, rfl, _⟩ := DataW.trod_bool (at_b ha) hx
    exact ⟨.b y, ⟨y, rfl⟩, rfl⟩
  | arr k e =>
    cases he : e.root with
    | u wd =>
      simp only [plainTy, he] at hp
      obtain ⟨xs, h1, h2, _⟩ := trod_root_u (okU_okW hp) m h (by simpa [Ty.root] using he) hx
      exact ⟨.agg (k * e.size) (.u wd xs), by simp only [Opened, he]; exact ⟨xs, h1, rfl⟩, okU_okW hp, h1, h2⟩
    | _ => simp [plainTy, he] at hp
  | _ => cases hp

theorem open_fields {c : Cx} {w' : World} {m n : Nat} {cs : List Value} : ∀ (fl : List Field) (ts : List Ty) (o : Nat), mapO' (fun f : Field => tyOf P m f.type) fl = some ts → fieldsFit P o ts fl = true → ts.all plainTy = true → cs.length = o + Ty.sizes ts →
    (∀ f ∈ fl, ∃ x, DataW.trod enc P w base spare held n f.type ((cs.drop f.offset).take (P.cellsOf f.type)) = some x) → ∃ vs css, All2 Opened ts vs ∧ cs.drop o = css.flatten ∧ All2 (FRel c w') vs css := by
  intro fl
  induction fl with
  | nil =>
    intro ts o h1 _ _ hl _
    cases h1
    exact ⟨[], [], trivial, by rw [List.drop_of_length_le (by simp [Ty.sizes] at hl; omega)]; rfl, trivial⟩
  | cons f fl ih =>
    intro ts o h1 h2 h3 hl hx
    simp only [mapO'] at h1
    cases ht : tyOf P m f.type with
    | none => rw [ht] at h1; cases h1
    | some ty =>
      rw [ht] at h1
      dsimp only at h1
      cases hts : mapO' (fun f : Field => tyOf P m f.type) fl with
      | none => rw [hts] at h1; cases h1
      | some ts' =>
        rw [hts] at h1
        cases h1
        simp only [fieldsFit, Bool.and_eq_true, beq_iff_eq] at h2
        simp only [List.all_cons, Bool.and_eq_true] at h3
        simp only [Ty.sizes] at hl
        obtain ⟨x, hx1⟩ := hx f (by simp)
        obtain ⟨v, hv1, hv2⟩ := open1 (c := c) (w' := w') ht h3.1 hx1
        obtain ⟨vs, css, k1, k2, k3⟩ := ih ts' (o + ty.size) hts h2.2 h3.2 (by omega) (fun g hg => hx g (by simp [hg]))
        rw [h2.1, tyOf_cells ht] at hv2
        refine ⟨v :: vs, (cs.drop o).take ty.size :: css, ⟨hv1, k1⟩, ?_, hv2, k3⟩
        rw [List.flatten_cons, ← k2, ← List.drop_drop, List.take_append_drop]

/-- a struct that came in -/
theorem open_st {c : Cx} {w' : World} {m t : Nat} {ts : List Ty} {fuel : Nat} {cs : List Value} {x : DataW H × List MemPlace} (h : tyOf P m t = some (.st ts)) (hp : ts.all plainTy = true) (hx : DataW.trod enc P w base spare held fuel t cs = some x) :
    ∃ vs css, All2 Opened ts vs ∧ cs = css.flatten ∧ All2 (FRel c w') vs css := by
  obtain ⟨m', hm, ha, _⟩ := tyOf_at h
  subst hm
  obtain ⟨fs, h1, h2, h3⟩ := at_st ha
  obtain ⟨xs, n, _, _, hl, hn, hel⟩ := DataW.trod_struct h1 hx
  obtain ⟨vs, css, k1, k2, k3⟩ := open_fields (c := c) (w' := w') (enc := enc) (w := w) (base := base) (spare := spare) (held := held) (n := n) (cs := cs) fs.toList ts 0 h2 h3 hp (by rw [hl, tyOf_cells h]; simp [Ty.size]) (by
    intro f hf
    obtain ⟨i, hi, hfi⟩ := List.mem_iff_getElem.1 hf
    have hi' : i < fs.size := by simpa using hi
    have h4 := hel i f (by rw [← hfi]; simp [Array.getElem?_eq_getElem hi'])
    exact ⟨xs[i], by rw [h4, List.getElem?_eq_getElem (by omega)]⟩)
  exact ⟨vs, css, k1, by simpa using k2, k3⟩
end

theorem all2_cons {α β : Type} {R : α → β → Prop} {a : α} {l : List α} {bs : List β} (h : All2 R (a :: l) bs) : ∃ b bs', bs = b :: bs' ∧ R a b ∧ All2 R l bs' := by
  cases bs with
  | nil => exact h.elim
  | cons b bs => exact ⟨b, bs, rfl, h.1, h.2⟩
theorem all2_nil {α β : Type} {R : α → β → Prop} {bs : List β} (h : All2 R ([] : List α) bs) : bs = [] := by
  cases bs with
  | nil => rfl
  | cons b bs => exact h.elim


section
variable {H : Type} {enc : TypeId × Value → H} {P : Program} {w : World}

/-- a slice of numbers that came in -/
theorem open_slu {m t wd : Nat} {fuel : Nat} {ad : Option Addr} {len cap : Nat} {x : DataW H × List MemPlace} (h : tyOf P m t = some (.sl (.u wd))) (hw : okW wd) (hx : DataW.trod enc P w 0 (fun _ => true) true fuel t [.slice ad len cap] = some x) (hs : len ≤ LIM) :
    ∃ xs : List (BitVec wd), xs.length = len ∧ FRel (c0 w) w (.sl false (.u wd xs)) [.slice ad len cap] := by
  obtain ⟨m', hm, ha, _⟩ := tyOf_at h
  obtain ⟨u, hu, he⟩ := at_sl ha
  obtain ⟨m2, hm2, ha2, _⟩ := tyOf_at he
  obtain ⟨hk, _⟩ := at_u ha2
  have hc : P.cellsOf u = 1 := tyOf_cells he
  rcases open_ints hu hk hc hx with ⟨hcs, _⟩ | ⟨a, len', cap', zs, hcs, _, hl, hm3, hz, _, hcell, hwf⟩
  · simp at hcs
    obtain ⟨rfl, rfl, rfl⟩ := hcs
    exact ⟨[], rfl, _, rfl, none, 0, 0, rfl, rfl, Nat.le_refl _, Nat.zero_le _, hw, .inl rfl⟩
  · simp at hcs
    obtain ⟨rfl, rfl, rfl⟩ := hcs
    simp only [if_true] at hz
    let xs : List (BitVec wd) := (zs.take len).map fun n => BitVec.ofInt wd n
    have hlen : xs.length = len := by simp only [xs, List.length_map, List.length_take]; omega
    refine ⟨xs, hlen, _, rfl, some a, len, cap, rfl, hlen.symm, hl, by show xs.length ≤ LIM; omega, hw, ?_⟩
    by_cases h0 : len = 0
    · left; show xs.length = 0; omega
    right
    obtain ⟨b, off, spot⟩ := a
    have hc0 := hcell 0 (by omega)
    have hspot : spot = none := by simpa [Addr.add] using World.cell?_spot hc0
    subst hspot
    refine ⟨b, off, rfl, hw, fun j y hy => ⟨fun hh => hh, ?_⟩⟩
    have hj : j < len := by rw [← hlen]; exact (List.getElem?_eq_some_iff.1 hy).1
    have hcj := hcell j (by omega)
    rw [addr_add] at hcj
    rw [hcj]
    have hjz : j < zs.length := by omega
    have hyz : y = BitVec.ofInt wd (zs.getD j 0) := by
      simp only [xs, List.getElem?_map, List.getElem?_take, hj, if_true, List.getElem?_eq_getElem hjz, Option.map_some] at hy
      have := Option.some.inj hy
      rw [← this, List.getD_eq_getElem?_getD, List.getElem?_eq_getElem hjz]
      rfl
    obtain ⟨y', hy'⟩ := wf_u hw (hwf (zs.getD j 0) (by rw [List.getD_eq_getElem?_getD, List.getElem?_eq_getElem hjz]; exact List.getElem_mem hjz))
    rw [hy'] at hyz ⊢
    rw [ofInt_toNat] at hyz
    subst hyz
    rfl

/-- what the form's own reach says of a slice -/
theorem reach_len {ts : List TypeId} {ds : List (DataW H)} (hs : (DataW.weightsEach P ts ds).all (· ≤ reachBytes) = true) {j t e m wd fuel : Nat} {ad : Option Addr} {len cap : Nat} {d : DataW H} {ps : List MemPlace} (ht : ts[j]? = some t) (hd : ds[j]? = some d) (h : tyOf P m t = some (.sl (.u wd)))
    (hu : P.underlying t = some (.slice e)) (hb : 0 < P.bytesOf e) (hx : DataW.trod enc P w 0 (fun _ => true) true fuel t [.slice ad len cap] = some (d, ps)) : len * P.bytesOf e ≤ reachBytes := by
  obtain ⟨m', hm, ha, _⟩ := tyOf_at h
  obtain ⟨u, hu', he⟩ := at_sl ha
  have : u = e := by rw [hu'] at hu; cases hu; rfl
  subst this
  obtain ⟨m2, hm2, ha2, _⟩ := tyOf_at he
  obtain ⟨hk, _⟩ := at_u ha2
  rcases open_ints hu hk (tyOf_cells he) hx with ⟨hcs, _⟩ | ⟨a, len', cap', zs, hcs, _, hl, hm3, hz, hxx, hcell, hwf⟩
  · simp at hcs
    obtain ⟨rfl, rfl, rfl⟩ := hcs
    omega
  · simp at hcs
    obtain ⟨rfl, rfl, rfl⟩ := hcs
    simp only [Prod.mk.injEq] at hxx
    obtain ⟨rfl, _⟩ := hxx
    have := sized_slice hs ht hd hu
    simp only [if_true] at hz
    refine Nat.le_trans (Nat.mul_le_mul_right _ ?_) this
    simp [lits]
    omega
end

section
variable {P : Program} {gl : Nat → Option Row} {w0 : World} {ext : Nat → Nat → Prop} {av : Nat → Prop} {st : St} {c d : Code} {R R' : Exit → St → Prop}
/-- a state in the middle, at the end of a block -/
theorem W.midB {id : Nat} (s1 : St) (h1 : W P gl w0 ext av c st (thenQ (fun s => Imp gl w0 ext av s s1) (inBlockQ id (thenQ (fun s => W P gl w0 ext av d s R') R)))) (h2 : W P gl w0 ext av d s1 R') :
    W P gl w0 ext av c st (inBlockQ id (thenQ (fun s => W P gl w0 ext av d s R') R)) := by
  refine W.mono h1 ?_
  intro e s h
  cases e with
  | normal => exact W.imp h2 h
  | _ => exact h
end

/-! ### from a law's function to its row -/
section
variable {P : Program} {gl : Nat → Option Row}

theorem All2.argv {c : Cx} {w : World} : ∀ {ins : List V} {vs : List Value}, All2 (fun x v => argC x = none ∧ VRel c w x v) ins vs → vs.length = ins.length ∧ (∀ k, mem0 ins k = none) := by
  intro ins vs h
  refine ⟨h.length.symm, fun k => ?_⟩
  unfold mem0
  by_cases hk : k < 1000
  · rw [if_pos hk]
  · rw [if_neg hk]
    cases hx : ins[k - 1000]? with
    | none => rfl
    | some x =>
      obtain ⟨v, _, h1, _⟩ := h.get _ _ hx
      exact h1

theorem argV_of_none {j : Nat} {x : V} (h : argC x = none) : argV j x = x := by
  unfold argC at h
  unfold argV
  split at h <;> first | (cases h; done) | skip
  rfl


theorem start_plain {w : World} {ins : List V} {vs : List Value} (h : All2 (fun x v => argC x = none ∧ VRel (c0 w) w x v) ins vs) (hg : ∀ g r, gl g = some r → rowAt w (c0 w) false g 0 r) :
    Start gl w (fun _ => False) (fun _ => False) (fun _ => none) ins vs := by
  obtain ⟨hl, hm⟩ := All2.argv h
  have hc : cxOf (fun _ => none) (mem0 ins) (fun _ => False) w.heap.size = c0 w := by
    unfold cxOf c0
    congr 1
    funext b
    simp [ownOf]
  refine ⟨hl, ?_, ?_, ?_, ?_, fun _ h => h, fun _ h => h.elim, ?_⟩
  · intro j x hx
    obtain ⟨v, hv, h1, h2⟩ := h.get j x hx
    exact ⟨v, hv, by rw [hc, argV_of_none h1]; exact h2⟩
  · intro k x hk; rw [hm] at hk; cases hk
  · intro k k' x x' b hk; rw [hm] at hk; cases hk
  · intro k x b hk; rw [hm] at hk; cases hk
  · intro g r hgr; rw [hc]; exact hg g r hgr

/-- a law's call comes to an end, says yes, and leaves all as it was -/
theorem law_calls {f : Nat} {fn : Func} {run : List V → Option (V × List V)} (hs : SoundFn P gl f run) (hf : P.funcs[f]? = some fn) (hb : fn.body.isSome = true) (hname : fn.name ≠ "runtime.NumGoroutine") {w : World} {ins : List V} {vs : List Value}
    (hrun : run ins = some (.b true, [])) (h : All2 (fun x v => argC x = none ∧ VRel (c0 w) w x v) ins vs) (hg : ∀ g r, gl g = some r → rowAt w (c0 w) false g 0 r) :
    Calls P f vs.toArray w fun e w' => e = .returned (.bool true) ∧ Below w.heap.size w w' := by
  rcases hs ins _ _ hrun w _ _ _ vs (start_plain h hg) with ⟨v, w', h1, _⟩ | ⟨_, hc⟩
  · exfalso
    obtain ⟨c, hc⟩ := Option.isSome_iff_exists.1 hb
    have : (callFunc f vs.toArray).run P w = .ok (.enter f vs.toArray) w := by simp [callFunc, hf, hc, hname]
    rw [this] at h1
    cases h1
  · refine Calls.mono hc ?_
    rintro e w' ⟨v, rfl, φ', hd⟩
    refine ⟨?_, hd.keep.os, hd.keep.tape, hd.keep.output, hd.keep.size, fun k hk => hd.keep.block k hk (fun h => h)⟩
    have := hd.val
    rw [inv_b this]

theorem glob_u {w : World} {n : String} {g : Nat} {cs : Array Value} {wd : Nat} {xs : List (BitVec wd)} (hw : okW wd) (hg : P.globalNamed n = some g) (hv : w.var? P n = some cs) (hc : cs.toList = xs.map (ic wd)) : rowAt w (c0 w) false g 0 (.u wd xs) := by
  refine ⟨hw, fun j x hx => ⟨fun h => h, ?_⟩⟩
  rw [Nat.zero_add, World.var?_cell hg hv j, ← Array.getElem?_toList, hc, List.getElem?_map, hx]
  rfl
theorem glob_i {w : World} {n : String} {g : Nat} {cs : Array Value} {xs : List Int} (hr : ∀ x ∈ xs, inR x) (hg : P.globalNamed n = some g) (hv : w.var? P n = some cs) (hc : cs.toList = xs.map ii) : rowAt w (c0 w) false g 0 (.i xs) := by
  refine fun j x hx => ⟨⟨fun h => h, ?_⟩, hr x (List.mem_of_getElem? hx)⟩
  rw [Nat.zero_add, World.var?_cell hg hv j, ← Array.getElem?_toList, hc, List.getElem?_map, hx]
  rfl
end
theorem okWide_arr {P : Program} {w : World} {r : Reach} {base : Nat} {t : TypeId} {n : Nat} {e : TypeId} {v : Value} (ht : P.underlying t = some (.array n e)) (h : Value.okWide P w r base t v) : ∃ cs, v = .agg cs ∧ cs.size = P.cellsOf t := by
  simp only [Value.okWide, ht] at h
  obtain ⟨cs, h1, h2, _⟩ := h
  exact ⟨cs, h1, h2⟩

end Go.Vm

/- Small words for walks. -/
namespace Go.Vm
open Go
set_option linter.unusedVariables false

theorem ne_of_nd {p : Prop} {i : Decidable p} (h : (!@decide p i) = true) : ¬ p := by
  intro hp
  rw [@decide_eq_true p i hp] at h
  cases h
theorem eq_of_nd {p : Prop} {i : Decidable p} (h : (!@decide p i) = false) : p := by
  apply Decidable.byContradiction
  intro hp
  rw [@decide_eq_false p i hp] at h
  cases h
theorem yes_of {p : Prop} {i : Decidable p} (h : @decide p i = true) : p := of_decide_eq_true h
theorem no_of {p : Prop} {i : Decidable p} (h : @decide p i = false) : ¬ p := of_decide_eq_false h
theorem getD_off {α : Type} (l : List α) (i : Nat) (d : α) (h : l.length ≤ i) : l.getD i d = d := by
  rw [List.getD_eq_getElem?_getD, List.getElem?_eq_none h]; rfl
theorem set_getD_self {α : Type} (l : List α) (i : Nat) (d : α) : l.set i (l.getD i d) = l := by
  refine List.ext_getElem? fun j => ?_
  rw [List.getElem?_set]
  by_cases e : i = j
  · subst e
    rw [if_pos rfl]
    by_cases h : i < l.length
    · rw [if_pos h, List.getD_eq_getElem?_getD, List.getElem?_eq_getElem h]; rfl
    · rw [if_neg h, List.getElem?_eq_none (by omega)]
  · rw [if_neg e]
theorem getD_set_self {α : Type} (l : List α) (i : Nat) (x d : α) (h : i < l.length) : (l.set i x).getD i d = x := by
  rw [List.getD_eq_getElem?_getD, List.getElem?_set_self h]; rfl
theorem getD_set_other {α : Type} (l : List α) (i j : Nat) (x d : α) (h : i ≠ j) : (l.set i x).getD j d = l.getD j d := by
  rw [List.getD_eq_getElem?_getD, List.getElem?_set_ne h, ← List.getD_eq_getElem?_getD]
theorem getD_append_left {α : Type} (l m : List α) (i : Nat) (d : α) (h : i < l.length) : (l ++ m).getD i d = l.getD i d := by
  rw [List.getD_eq_getElem?_getD, List.getElem?_append_left h, ← List.getD_eq_getElem?_getD]
theorem getD_append_right {α : Type} (l m : List α) (i : Nat) (d : α) (h : l.length ≤ i) : (l ++ m).getD i d = m.getD (i - l.length) d := by
  rw [List.getD_eq_getElem?_getD, List.getElem?_append_right h, ← List.getD_eq_getElem?_getD]
theorem ext_getD {α : Type} (d : α) {l m : List α} (hl : l.length = m.length) (h : ∀ i, i < l.length → l.getD i d = m.getD i d) : l = m := by
  refine List.ext_getElem hl fun i h1 h2 => ?_
  have := h i h1
  rw [List.getD_eq_getElem?_getD, List.getD_eq_getElem?_getD, List.getElem?_eq_getElem h1, List.getElem?_eq_getElem h2] at this
  exact this
end Go.Vm

/- Numbers as digits of 16 bits: what products and comparings of such come to. -/
namespace Go.Vm
open Go
set_option linter.unusedVariables false

def prodStep (x : BitVec 64) (b : List (BitVec 64)) (i j : Nat) (p : List (BitVec 64) × BitVec 64) : List (BitVec 64) × BitVec 64 :=
  (p.1.set (i + j) ((p.1.getD (i + j) 0 + x * b.getD j 0 + p.2) &&& 65535#64), (p.1.getD (i + j) 0 + x * b.getD j 0 + p.2) >>> 16)
def prodIn (x : BitVec 64) (b : List (BitVec 64)) (i k : Nat) (out : List (BitVec 64)) : List (BitVec 64) × BitVec 64 := itN (prodStep x b i) k (out, 0#64)
def prodRow (a b : List (BitVec 64)) (i : Nat) (out : List (BitVec 64)) : List (BitVec 64) := (prodIn (a.getD i 0) b i b.length out).1.set (i + b.length) (prodIn (a.getD i 0) b i b.length out).2
def prodF (a b : List (BitVec 64)) : List (BitVec 64) := itN (prodRow a b) a.length (zeros 64 (a.length + b.length))
theorem prodIn_len (x : BitVec 64) (b : List (BitVec 64)) (i k : Nat) (out : List (BitVec 64)) : (prodIn x b i k out).1.length = out.length :=
  itN_inv (p := fun (t : List (BitVec 64) × BitVec 64) => t.1.length = out.length) (fun _ _ h => by simpa [prodStep] using h) k rfl
theorem prodTo_len (a b : List (BitVec 64)) (k : Nat) : (itN (prodRow a b) k (zeros 64 (a.length + b.length))).length = a.length + b.length :=
  itN_inv (p := fun (t : List (BitVec 64)) => t.length = a.length + b.length) (fun _ _ h => by simp only [prodRow, List.length_set, prodIn_len]; exact h) k (by simp [zeros])
theorem prodF_len (a b : List (BitVec 64)) : (prodF a b).length = a.length + b.length := prodTo_len a b _
def lessF (a b : List (BitVec 64)) : Nat → Bool
  | 0 => false
  | k + 1 => if a.getD k 0 = b.getD k 0 then lessF a b k else decide (a.getD k 0 < b.getD k 0)

/-- the number that the first k digits make -/
def dvk (l : List (BitVec 64)) : Nat → Nat
  | 0 => 0
  | k + 1 => dvk l k + 65536 ^ k * (l.getD k 0).toNat
def okD (l : List (BitVec 64)) : Prop := ∀ i, (l.getD i 0).toNat < 65536

theorem dvk_congr {l m : List (BitVec 64)} : ∀ {k}, (∀ i, i < k → l.getD i 0 = m.getD i 0) → dvk l k = dvk m k
  | 0, _ => rfl
  | k + 1, h => by simp only [dvk]; rw [dvk_congr (fun i hi => h i (by omega)), h k (by omega)]
theorem dvk_more {l : List (BitVec 64)} {k : Nat} : ∀ d, (∀ i, k ≤ i → l.getD i 0 = 0) → dvk l (k + d) = dvk l k
  | 0, _ => rfl
  | d + 1, h => by
    show dvk l (k + d) + 65536 ^ (k + d) * (l.getD (k + d) 0).toNat = _
    rw [dvk_more d h, h (k + d) (by omega)]
    simp
theorem dvk_ge (l : List (BitVec 64)) {k : Nat} (h : l.length ≤ k) : dvk l k = dvk l l.length := by
  obtain ⟨d, rfl⟩ : ∃ d, k = l.length + d := ⟨k - l.length, by omega⟩
  exact dvk_more d fun i hi => getD_off l i 0 hi
theorem dvk_lt {l : List (BitVec 64)} (h : okD l) : ∀ k, dvk l k < 65536 ^ k
  | 0 => Nat.lt_succ_self 0
  | k + 1 => by
    have h1 := dvk_lt h k
    have h2 := h k
    have h3 : 65536 ^ k * (l.getD k 0).toNat ≤ 65536 ^ k * 65535 := Nat.mul_le_mul_left _ (by omega)
    have h4 : 65536 ^ (k + 1) = 65536 ^ k * 65536 := Nat.pow_succ ..
    simp only [dvk]
    omega
theorem dvk_set {l : List (BitVec 64)} {i : Nat} {x : BitVec 64} (hi : i < l.length) : ∀ {k}, i < k → dvk (l.set i x) k + 65536 ^ i * (l.getD i 0).toNat = dvk l k + 65536 ^ i * x.toNat
  | 0, h => by omega
  | k + 1, h => by
    simp only [dvk]
    by_cases e : i = k
    · subst e
      rw [getD_set_self _ _ _ _ hi, dvk_congr (m := l) fun j hj => getD_set_other _ _ _ _ _ (by omega)]
      omega
    · have := dvk_set (x := x) hi (k := k) (by omega)
      rw [getD_set_other _ _ _ _ _ e]
      omega
theorem dvk_set_off {l : List (BitVec 64)} {i k : Nat} {x : BitVec 64} (h : k ≤ i) : dvk (l.set i x) k = dvk l k := dvk_congr fun j hj => getD_set_other _ _ _ _ _ (by omega)
theorem dvk_zeros (n k : Nat) : dvk (zeros 64 n) k = 0 := by
  induction k with
  | zero => rfl
  | succ k ih =>
    have : (zeros 64 n).getD k 0 = 0 := by
      unfold zeros
      rw [List.getD_eq_getElem?_getD, List.getElem?_replicate]
      split <;> rfl
    simp only [dvk, ih, this]
    simp
theorem getD_zeros (w n k : Nat) : (zeros w n).getD k 0 = 0 := by
  unfold zeros
  rw [List.getD_eq_getElem?_getD, List.getElem?_replicate]
  split <;> rfl
theorem okD_zeros (n : Nat) : okD (zeros 64 n) := fun i => by rw [getD_zeros]; decide
theorem okD_set {l : List (BitVec 64)} (h : okD l) (i : Nat) {x : BitVec 64} (hx : x.toNat < 65536) : okD (l.set i x) := by
  intro j
  by_cases e : i = j
  · subst e
    by_cases hi : i < l.length
    · rw [getD_set_self _ _ _ _ hi]; exact hx
    · rw [List.set_eq_of_length_le (by omega)]; exact h i
  · rw [getD_set_other _ _ _ _ _ e]; exact h j
theorem okD_cons {l : List (BitVec 64)} (h : okD l) {x : BitVec 64} (hx : x.toNat < 65536) : okD (x :: l) := by
  intro j
  cases j with
  | zero => exact hx
  | succ j => rw [List.getD_cons_succ]; exact h j
theorem dvk_cons (x : BitVec 64) (l : List (BitVec 64)) (k : Nat) : dvk (x :: l) (k + 1) = x.toNat + 65536 * dvk l k := by
  induction k with
  | zero => simp [dvk]
  | succ k ih =>
    rw [dvk, ih]
    simp only [dvk, List.getD_cons_succ]
    rw [Nat.pow_succ, Nat.mul_add, ← Nat.mul_assoc, Nat.mul_comm 65536 (65536 ^ k)]
    omega

theorem low16 (x : BitVec 64) : (x &&& 65535#64).toNat = x.toNat % 65536 := by
  rw [BitVec.toNat_and]
  show x.toNat &&& 65535 = _
  rw [show (65535 : Nat) = 2 ^ 16 - 1 from rfl, Nat.and_two_pow_sub_one_eq_mod]
theorem high16 (x : BitVec 64) : (x >>> 16).toNat = x.toNat / 65536 := by
  rw [BitVec.toNat_ushiftRight, Nat.shiftRight_eq_div_pow]
theorem digit_sum (o x b c : BitVec 64) (h1 : o.toNat < 65536) (h2 : x.toNat < 65536) (h3 : b.toNat < 65536) (h4 : c.toNat < 65536) : (o + x * b + c).toNat = o.toNat + x.toNat * b.toNat + c.toNat ∧ o.toNat + x.toNat * b.toNat + c.toNat < 4294967296 := by
  have hm : x.toNat * b.toNat ≤ 65535 * 65535 := Nat.mul_le_mul (by omega) (by omega)
  refine ⟨?_, by omega⟩
  rw [BitVec.toNat_add, BitVec.toNat_add, BitVec.toNat_mul]
  omega

theorem prodIn_val {x : BitVec 64} {b : List (BitVec 64)} {i : Nat} {out : List (BitVec 64)} (hx : x.toNat < 65536) (hb : okD b) (ho : okD out) (hl : i + b.length ≤ out.length) : ∀ k, k ≤ b.length →
    okD (prodIn x b i k out).1 ∧ (prodIn x b i k out).2.toNat < 65536 ∧ dvk (prodIn x b i k out).1 out.length + 65536 ^ (i + k) * (prodIn x b i k out).2.toNat = dvk out out.length + 65536 ^ i * (x.toNat * dvk b k)
      ∧ ∀ j, i + k ≤ j → (prodIn x b i k out).1.getD j 0 = out.getD j 0
  | 0, _ => ⟨ho, by show 0 < 65536; decide, by show dvk out _ + _ * 0 = _ + _ * (_ * 0); omega, fun _ _ => rfl⟩
  | k + 1, hk => by
    obtain ⟨h1, h2, h3, h4⟩ := prodIn_val hx hb ho hl k (by omega)
    have e : prodIn x b i (k + 1) out = prodStep x b i k (prodIn x b i k out) := itN_succ _ _ _
    have hlen := prodIn_len x b i k out
    rw [e]
    generalize prodIn x b i k out = p at h1 h2 h3 h4 hlen
    obtain ⟨q, c⟩ := p
    dsimp only at h1 h2 h3 h4 hlen
    simp only [prodStep]
    have hd := digit_sum (q.getD (i + k) 0) x (b.getD k 0) c (h1 _) hx (hb _) h2
    generalize q.getD (i + k) 0 + x * b.getD k 0 + c = d at hd
    refine ⟨okD_set h1 _ (by rw [low16]; omega), by rw [high16]; omega, ?_, fun j hj => by rw [getD_set_other _ _ _ _ _ (by omega)]; exact h4 j (by omega)⟩
    have hs := dvk_set (l := q) (i := i + k) (x := d &&& 65535#64) (by omega) (k := out.length) (by omega)
    rw [low16] at hs
    rw [high16]
    have hdm := Nat.div_add_mod d.toNat 65536
    have e1 : 65536 ^ (i + (k + 1)) = 65536 ^ (i + k) * 65536 := Nat.pow_succ ..
    have e2 : 65536 ^ i * (x.toNat * (dvk b k + 65536 ^ k * (b.getD k 0).toNat)) = 65536 ^ i * (x.toNat * dvk b k) + 65536 ^ (i + k) * (x.toNat * (b.getD k 0).toNat) := by
      rw [Nat.pow_add, Nat.mul_add, Nat.mul_add]
      congr 1
      rw [Nat.mul_assoc]
      congr 1
      rw [Nat.mul_left_comm]
    simp only [dvk]
    rw [e1, e2]
    generalize 65536 ^ (i + k) = B at *
    have e3 : B * d.toNat = B * (q.getD (i + k) 0).toNat + B * (x.toNat * (b.getD k 0).toNat) + B * c.toNat := by rw [hd.1, Nat.mul_add, Nat.mul_add]
    have e4 : B * d.toNat = B * 65536 * (d.toNat / 65536) + B * (d.toNat % 65536) := by rw [Nat.mul_assoc, ← Nat.mul_add, hdm]
    omega

theorem prodF_val {a b : List (BitVec 64)} (ha : okD a) (hb : okD b) : okD (prodF a b) ∧ dvk (prodF a b) (a.length + b.length) = dvk a a.length * dvk b b.length := by
  have key : ∀ k, k ≤ a.length → okD (itN (prodRow a b) k (zeros 64 (a.length + b.length))) ∧ dvk (itN (prodRow a b) k (zeros 64 (a.length + b.length))) (a.length + b.length) = dvk a k * dvk b b.length
      ∧ ∀ j, k + b.length ≤ j → (itN (prodRow a b) k (zeros 64 (a.length + b.length))).getD j 0 = 0 := by
    intro k
    induction k with
    | zero => intro _; exact ⟨okD_zeros _, by show dvk (zeros 64 _) _ = 0 * _; rw [dvk_zeros, Nat.zero_mul], fun j _ => getD_zeros ..⟩
    | succ k ih =>
      intro hk
      obtain ⟨h1, h2, h3⟩ := ih (by omega)
      have hlen := prodTo_len a b k
      rw [itN_succ]
      generalize itN (prodRow a b) k (zeros 64 (a.length + b.length)) = out at h1 h2 h3 hlen
      unfold prodRow
      obtain ⟨g1, g2, g3, g4⟩ := prodIn_val (x := a.getD k 0) (i := k) (ha k) hb h1 (by omega) b.length (Nat.le_refl _)
      have hl2 := prodIn_len (a.getD k 0) b k b.length out
      generalize prodIn (a.getD k 0) b k b.length out = p at g1 g2 g3 g4 hl2
      obtain ⟨q, c⟩ := p
      dsimp only at g1 g2 g3 g4 hl2
      have hs := dvk_set (l := q) (i := k + b.length) (x := c) (by omega) (k := out.length) (by omega)
      rw [g4 (k + b.length) (Nat.le_refl _), h3 (k + b.length) (Nat.le_refl _)] at hs
      refine ⟨okD_set g1 _ g2, ?_, fun j hj => ?_⟩
      · rw [hlen] at hs g3
        simp only [dvk]
        rw [Nat.add_mul, ← h2, Nat.mul_assoc]
        have : (0 : BitVec 64).toNat = 0 := rfl
        rw [this] at hs
        omega
      · dsimp only
        rw [getD_set_other _ _ _ _ _ (by omega), g4 j (by omega), h3 j (by omega)]
  obtain ⟨h1, h2, _⟩ := key a.length (Nat.le_refl _)
  exact ⟨h1, h2⟩

theorem lessF_val {a b : List (BitVec 64)} (ha : okD a) (hb : okD b) : ∀ k, (lessF a b k = true ↔ dvk a k < dvk b k)
  | 0 => by simp [lessF, dvk]
  | k + 1 => by
    have ih := lessF_val ha hb k
    have h1 := dvk_lt ha k
    have h2 := dvk_lt hb k
    simp only [lessF, dvk]
    generalize a.getD k 0 = x
    generalize b.getD k 0 = y
    by_cases e : x = y
    · rw [if_pos e, ih, e]
      omega
    · rw [if_neg e]
      have hne : x.toNat ≠ y.toNat := fun h => e (BitVec.eq_of_toNat_eq h)
      rw [decide_eq_true_iff, BitVec.lt_def]
      generalize 65536 ^ k = B at h1 h2
      have hm : ∀ {u v : Nat}, u < v → B * u + B ≤ B * v := fun {u v} h => by rw [← Nat.mul_succ]; exact Nat.mul_le_mul_left _ h
      constructor
      · intro h
        have := hm h
        omega
      · intro h
        rcases Nat.lt_or_ge x.toNat y.toNat with g | g
        · exact g
        · have := hm (show y.toNat < x.toNat by omega)
          omega
end Go.Vm


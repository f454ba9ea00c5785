/- The abstract machine by which the walks of this claim are made: part 4 of 4. Nothing in it speaks of a program. -/
import Derived.Test.YthjgpkaamgoodaaVc
import Derived.Deep.Matrix
import Derived.Laws.Externs
/- Slices of slices of bytes that come in. -/
namespace Go.Vm
open Go
set_option linter.unusedVariables false
section
variable {H : Type} {enc : TypeId × Value → H} {P : Program} {w : World}
theorem weightsAll_mem {H : Type} {P : Program} {e : TypeId} : ∀ {l : List (DataW H)} {d : DataW H}, d ∈ l → ∀ n ∈ d.weights P e, n ∈ DataW.weightsAll P e l
  | d' :: r, d, hd, n, hn => by
    simp only [DataW.weightsAll, List.mem_append]
    rcases List.mem_cons.1 hd with rfl | h
    · exact Or.inl hn
    · exact Or.inr (weightsAll_mem h n hn)
/-- a slice of slices of bytes that came in -/
theorem open_slb {ts : List TypeId} {ds : List (DataW H)} (hs : (DataW.weightsEach P ts ds).all (· ≤ reachBytes) = true) {j0 : Nat} {m t : Nat} {fuel : Nat} {ad : Option Addr} {len cap : Nat} {x : DataW H × List MemPlace} (h : tyOf P m t = some (.sl (.sl (.u 8)))) (hx : DataW.trod enc P w 0 (fun _ => true) true fuel t [.slice ad len cap] = some x) (ht : ts[j0]? = some t) (hd : ds[j0]? = some x.1) (hb1 : ∀ e, P.underlying t = some (.slice e) → 0 < P.bytesOf e ∧ ∀ q, P.underlying e = some (.slice q) → 0 < P.bytesOf q) :
    ∃ xs : List Bytes, xs.length = len ∧ len ≤ 140737488355328 ∧ FRel (c0 w) w (.sl false (.b false xs)) [.slice ad len cap] := by
  obtain ⟨m', hm, ha, _⟩ := tyOf_at h
  obtain ⟨e, hu, he⟩ := at_sl ha
  obtain ⟨m2, hm2, ha2, _⟩ := tyOf_at he
  obtain ⟨q, hq, hqq⟩ := at_sl ha2
  obtain ⟨m3, hm3, ha3, _⟩ := tyOf_at hqq
  obtain ⟨hk, _⟩ := at_u ha3
  have ce : P.cellsOf e = 1 := tyOf_cells he
  have cq : P.cellsOf q = 1 := tyOf_cells hqq
  rcases Deep.open_int_rows hu hq hk ce cq hx with ⟨hcs, _⟩ | ⟨a, len', cap', A, L, C, Z, hcs, _, hl, hm, hxx, hr⟩
  · simp at hcs
    obtain ⟨rfl, rfl, rfl⟩ := hcs
    exact ⟨[], rfl, Nat.zero_le _, _, rfl, none, 0, 0, rfl, rfl, Nat.le_refl _, Nat.zero_le _, trivial, .inl rfl⟩
  simp at hcs
  obtain ⟨rfl, rfl, rfl⟩ := hcs
  obtain ⟨b1, b2⟩ := hb1 e hu
  have b2 := b2 q hq
  rw [hxx] at hd
  have hout := sized_slice hs ht hd hu
  simp only [List.length_map, List.length_range] at hout
  have hcap : cap ≤ reachBytes := by
    have := Nat.le_mul_of_pos_right cap b1
    rw [show len + (cap - len) = cap by omega] at hout
    omega
  have hin : ∀ r, r < len → A r ≠ none → C r ≤ reachBytes := by
    intro r hrl hA
    obtain ⟨_, h1, _, h3, _⟩ := hr r (by omega)
    cases hA' : A r with
    | none => exact absurd hA' hA
    | some a' =>
      have hm2 : DataW.slice (ChangeShapes.lits (H := H) (kw 8) ((Z r).take (L r))) (ChangeShapes.lits (kw 8) ((Z r).drop (L r))) ∈ (List.range len).map fun r => Deep.intRow (H := H) (kw 8) (A r) (L r) (Z r) :=
        List.mem_map.2 ⟨r, List.mem_range.2 hrl, by simp only [Deep.intRow, hA']⟩
      have : (((Z r).take (L r)).length + ((Z r).drop (L r)).length) * P.bytesOf q ≤ reachBytes := by
        refine of_decide_eq_true (List.all_eq_true.1 hs _ (DataW.weights_mem_each ht hd _ ?_))
        simp only [DataW.weights, hu, List.mem_cons, List.mem_append]
        exact Or.inr (Or.inl (weightsAll_mem hm2 _ (by simp [DataW.weights, hq, ChangeShapes.lits])))
      have h4 := Nat.le_mul_of_pos_right (((Z r).take (L r)).length + ((Z r).drop (L r)).length) b2
      simp only [List.length_take, List.length_drop] at this h4
      omega
  have hrb : reachBytes < 2 ^ 47 := reachBytes_lt
  let row : Nat → Bytes := fun r => ((Z r).take (L r)).map fun n => BitVec.ofInt 8 n
  let xs : List Bytes := (List.range len).map row
  have hlen : xs.length = len := by simp [xs]
  have lrow : ∀ r, r < cap → (row r).length = L r := by
    intro r hc
    obtain ⟨_, h1, _, h3, _⟩ := hr r hc
    simp only [row, List.length_map, List.length_take]
    omega
  refine ⟨xs, hlen, by omega, _, rfl, some a, len, cap, rfl, hlen.symm, hl, by show xs.length ≤ LIM; simp only [LIM]; omega, trivial, ?_⟩
  by_cases h0 : len = 0
  · left; show xs.length = 0; omega
  right
  obtain ⟨b, off, spot⟩ := a
  have hc0 := (hr 0 (by omega)).1
  have hspot : spot = none := by simpa [Addr.add] using World.cell?_spot hc0
  subst hspot
  refine ⟨b, off, rfl, fun j y hy => ?_⟩
  have hj : j < len := by rw [← hlen]; exact (List.getElem?_eq_some_iff.1 hy).1
  have hyr : y = row j := by
    simp only [xs, List.getElem?_map, List.getElem?_range hj, Option.map_some] at hy
    exact (Option.some.inj hy).symm
  subst hyr
  obtain ⟨g1, g2, g3, g4, g5, g6, g7⟩ := hr j (by omega)
  rw [addr_add] at g1
  have lj := lrow j (by omega)
  refine ⟨_, ⟨fun hh => hh, g1⟩, A j, L j, C j, rfl, lj.symm, g2, ?_, ?_⟩
  · cases hA : A j with
    | none => have := g6 hA; simp only [LIM]; omega
    | some a' => have := hin j hj (by rw [hA]; exact fun h => by cases h); simp only [LIM]; omega
  by_cases hz : L j = 0
  · left; omega
  right
  cases hA : A j with
  | none => have := g6 hA; omega
  | some a' =>
    obtain ⟨_, hc⟩ := g7 a' hA
    obtain ⟨b', off', spot'⟩ := a'
    have hc0 := hc 0 (by omega)
    have hspot : spot' = none := by simpa [Addr.add] using World.cell?_spot hc0
    subst hspot
    refine ⟨b', off', rfl, fun i z hi => ⟨fun hh => hh, ?_⟩⟩
    have hil : i < L j := by rw [← lj]; exact (List.getElem?_eq_some_iff.1 hi).1
    have hci := hc i (by omega)
    rw [addr_add] at hci
    rw [hci]
    have hiz : i < (Z j).length := by omega
    have hzz : z = BitVec.ofInt 8 ((Z j).getD i 0) := by
      simp only [row, List.getElem?_map, List.getElem?_take, hil, if_true, List.getElem?_eq_getElem hiz, Option.map_some] at hi
      have := Option.some.inj hi
      rw [← this, List.getD_eq_getElem?_getD, List.getElem?_eq_getElem hiz]
      rfl
    obtain ⟨y', hy'⟩ := wf_u (wd := 8) (.inl rfl) (g5 ((Z j).getD i 0) (by rw [List.getD_eq_getElem?_getD, List.getElem?_eq_getElem hiz]; exact List.getElem_mem hiz))
    rw [hy'] at hzz ⊢
    rw [ofInt_toNat] at hzz
    subst hzz
    rfl
end
end Go.Vm

/- Functions for which the model stands in: sums and differences with a carry. -/
namespace Go.Vm
open Go
set_option linter.unusedVariables false

/-- a sum, and what is carried -/
def addF (x y c : BitVec 64) : BitVec 64 × BitVec 64 := (x + y + c, BitVec.ofNat 64 ((x.toNat + y.toNat + c.toNat) / 18446744073709551616))
/-- a difference, and what is borrowed -/
def subF (x y c : BitVec 64) : BitVec 64 × BitVec 64 := (x - y - c, if x.toNat < y.toNat + c.toNat then 1#64 else 0#64)
noncomputable def carS (F : BitVec 64 → BitVec 64 → BitVec 64 → BitVec 64 × BitVec 64) : FSpec := { run := fun ins => match ins with
  | [.u 64 x, .u 64 y, .u 64 c] => chk (c.toNat ≤ 1) (some (.tup [.u 64 (F x y c).1, .u 64 (F x y c).2], []))
  | _ => none }
noncomputable def add64S : FSpec := { run := fun ins => match ins with
  | [.u 64 x, .u 64 y, .u 64 c] => chk (c.toNat ≤ 1) (some (.tup [.u 64 (addF x y c).1, .u 64 (addF x y c).2], []))
  | _ => none }
noncomputable def sub64S : FSpec := { run := fun ins => match ins with
  | [.u 64 x, .u 64 y, .u 64 c] => chk (c.toNat ≤ 1) (some (.tup [.u 64 (subF x y c).1, .u 64 (subF x y c).2], []))
  | _ => none }

theorem soundFn_car {P : Program} {gl : Nat → Option Row} {f : Nat} {F : BitVec 64 → BitVec 64 → BitVec 64 → BitVec 64 × BitVec 64}
    (he : ∀ (x y c : BitVec 64) (w : World), c.toNat ≤ 1 → (callFunc f #[ic 64 x, ic 64 y, ic 64 c]).run P w = .ok (.value (.tuple #[ic 64 (F x y c).1, ic 64 (F x y c).2])) w) : SoundFn P gl f (carS F).run := by
  intro ins ret outs h w ext av φ vs hs
  simp only [carS] at h
  split at h
  · rename_i x y c
    obtain ⟨hc, h⟩ := chk_some h
    cases h
    have hl := hs.len
    obtain ⟨u0, g0, r0⟩ := hs.arg 0 _ rfl
    obtain ⟨u1, g1, r1⟩ := hs.arg 1 _ rfl
    obtain ⟨u2, g2, r2⟩ := hs.arg 2 _ rfl
    obtain ⟨_, rfl⟩ := inv_u r0
    obtain ⟨_, rfl⟩ := inv_u r1
    obtain ⟨_, rfl⟩ := inv_u r2
    have hvs : vs = [ic 64 x, ic 64 y, ic 64 c] := by
      match vs, hl with
      | [a, b, d], _ => simp at g0 g1 g2; rw [g0, g1, g2]
    subst hvs
    refine .inl ⟨_, _, he x y c w hc, φ, Keep.refl _ _, ?_, fun x hx => (by cases hx), fun i k y hi => (by simp [refKeys, argC] at hi)⟩
    have hu : ∀ z : BitVec 64, FRel (dcx φ av (.tup [.u 64 (F x y c).1, .u 64 (F x y c).2]) w.heap.size) w (.u 64 z) [ic 64 z] := fun z => ⟨.inr (.inr (.inr rfl)), rfl⟩
    exact ⟨_, rfl, .inr ⟨fun n r hh => (by cases hh), hu _⟩, .inr ⟨fun n r hh => (by cases hh), hu _⟩, trivial⟩
  · cases h

theorem sub64_run {P : Program} (x y b : Nat) (hb : b ≤ 1) (w : World) :
    ((fun args => (do
      let (x, y, b) ← Extern.MathBitsCarry.three "Sub64" args
      pure (Extern.MathBitsCarry.pair ((x + Extern.MathBitsCarry.m64 - y - b) % Extern.MathBitsCarry.m64) (if x < y + b then 1 else 0)) : Sem Value)) #[.int .u64 x, .int .u64 y, .int .u64 b]).run P w =
      .ok (.tuple #[.int .u64 (((x + 18446744073709551616 - y - b) % 18446744073709551616 : Nat) : Int), .int .u64 ((if x < y + b then 1 else 0 : Nat) : Int)]) w := by
  have : b = 0 ∨ b = 1 := by omega
  rcases this with rfl | rfl <;> rfl

theorem add64_sound {P : Program} {gl : Nat → Option Row} {f : Nat} {fn : Func} (hf : P.funcs[f]? = some fn) (hname : (fn.name == "runtime.NumGoroutine") = false)
    (hb : fn.body.isNone = true) (hn : Extern.findNext fn = none) (he : Extern.find fn = some Go.add64Entry) : SoundFn P gl f add64S.run := by
  refine soundFn_car (F := addF) fun x y c w hc => ?_
  have h1 := run_callFunc_extern hf hname hb hn he #[ic 64 x, ic 64 y, ic 64 c] w
  rw [h1]
  have h2 := Go.run_add64 (P := P) (x.toNat : Int) (y.toNat : Int) (c.toNat : Int) (by omega) (by omega) (by omega) (by omega) w
  have e : ∀ z : BitVec 64, ic 64 z = .int .u64 (z.toNat : Int) := fun _ => rfl
  rw [e, e, e, h2]
  show Result.ok _ _ = _
  have hx := x.isLt
  have hy := y.isLt
  have e1 : ((x.toNat : Int) + y.toNat + c.toNat) % 18446744073709551616 = ((addF x y c).1.toNat : Int) := by
    simp only [addF, BitVec.toNat_add]
    omega
  have e2 : ((x.toNat : Int) + y.toNat + c.toNat) / 18446744073709551616 = ((addF x y c).2.toNat : Int) := by
    simp only [addF, BitVec.toNat_ofNat]
    omega
  rw [e1, e2]
  rfl
theorem sub64_sound {P : Program} {gl : Nat → Option Row} {f : Nat} {fn : Func} (hf : P.funcs[f]? = some fn) (hname : (fn.name == "runtime.NumGoroutine") = false)
    (hb : fn.body.isNone = true) (hn : Extern.findNext fn = none) (he : Extern.find fn = some (fun args => (do
      let (x, y, b) ← Extern.MathBitsCarry.three "Sub64" args
      pure (Extern.MathBitsCarry.pair ((x + Extern.MathBitsCarry.m64 - y - b) % Extern.MathBitsCarry.m64) (if x < y + b then 1 else 0)) : Sem Value))) : SoundFn P gl f sub64S.run := by
  refine soundFn_car (F := subF) fun x y c w hc => ?_
  have h1 := run_callFunc_extern hf hname hb hn he #[ic 64 x, ic 64 y, ic 64 c] w
  rw [h1]
  have h2 := sub64_run (P := P) x.toNat y.toNat c.toNat hc w
  have e : ∀ z : BitVec 64, ic 64 z = .int .u64 (z.toNat : Int) := fun _ => rfl
  rw [e, e, e, h2]
  show Result.ok _ _ = _
  have hx := x.isLt
  have hy := y.isLt
  have e1 : (x.toNat + 18446744073709551616 - y.toNat - c.toNat) % 18446744073709551616 = (subF x y c).1.toNat := by
    simp only [subF, BitVec.toNat_sub]
    omega
  have e2 : (if x.toNat < y.toNat + c.toNat then 1 else 0 : Nat) = (subF x y c).2.toNat := by
    simp only [subF]
    split <;> rfl
  rw [e1, e2]
  rfl
end Go.Vm

/- Words: four digits of 64 bits, and the number that they make. -/
namespace Go.Vm
open Go
set_option linter.unusedVariables false

def B64 : Nat := 18446744073709551616
def B256 : Nat := 115792089237316195423570985008687907853269984665640564039457584007913129639936
/-- the number that the first k digits make -/
def wvk (l : List (BitVec 64)) : Nat → Nat
  | 0 => 0
  | k + 1 => wvk l k + B64 ^ k * (l.getD k 0).toNat
def wv (l : List (BitVec 64)) : Nat := wvk l 4
def wOf (n : Nat) : List (BitVec 64) := [BitVec.ofNat 64 n, BitVec.ofNat 64 (n / B64), BitVec.ofNat 64 (n / B64 ^ 2), BitVec.ofNat 64 (n / B64 ^ 3)]
@[go_sem] theorem wOf_len (n : Nat) : (wOf n).length = 4 := rfl
theorem B256_eq : B256 = B64 ^ 4 := by decide

theorem wvk_congr {l m : List (BitVec 64)} : ∀ {k}, (∀ i, i < k → l.getD i 0 = m.getD i 0) → wvk l k = wvk m k
  | 0, _ => rfl
  | k + 1, h => by simp only [wvk]; rw [wvk_congr (fun i hi => h i (by omega)), h k (by omega)]
theorem wvk_lt (l : List (BitVec 64)) : ∀ k, wvk l k < B64 ^ k
  | 0 => Nat.lt_succ_self 0
  | k + 1 => by
    have h1 := wvk_lt l k
    have h2 := (l.getD k 0).isLt
    have h3 : B64 ^ k * (l.getD k 0).toNat ≤ B64 ^ k * (B64 - 1) := Nat.mul_le_mul_left _ (by unfold B64; omega)
    have h4 : B64 ^ (k + 1) = B64 ^ k * B64 := Nat.pow_succ ..
    have h5 : B64 ^ k * B64 = B64 ^ k * (B64 - 1) + B64 ^ k := by rw [← Nat.mul_succ]; rfl
    simp only [wvk]
    omega
theorem wvk_set {l : List (BitVec 64)} {i : Nat} {x : BitVec 64} (hi : i < l.length) : ∀ {k}, i < k → wvk (l.set i x) k + B64 ^ i * (l.getD i 0).toNat = wvk l k + B64 ^ i * x.toNat
  | 0, h => by omega
  | k + 1, h => by
    simp only [wvk]
    by_cases e : i = k
    · subst e
      rw [getD_set_self _ _ _ _ hi, wvk_congr (m := l) fun j hj => getD_set_other _ _ _ _ _ (by omega)]
      omega
    · have := wvk_set (x := x) hi (k := k) (by omega)
      rw [getD_set_other _ _ _ _ _ e]
      omega
theorem wvk_zeros (n k : Nat) : wvk (zeros 64 n) k = 0 := by
  induction k with
  | zero => rfl
  | succ k ih =>
    simp only [wvk, ih, getD_zeros]
    simp
theorem wv_lt (l : List (BitVec 64)) : wv l < B256 := by rw [B256_eq]; exact wvk_lt l 4
theorem wv_four (a b c d : BitVec 64) : wv [a, b, c, d] = a.toNat + B64 * b.toNat + B64 ^ 2 * c.toNat + B64 ^ 3 * d.toNat := by
  show 0 + B64 ^ 0 * a.toNat + B64 ^ 1 * b.toNat + B64 ^ 2 * c.toNat + B64 ^ 3 * d.toNat = _
  rw [Nat.pow_zero, Nat.pow_one]
  omega
theorem len4 {α : Type} (l : List α) (h : l.length = 4) : ∃ a b c d, l = [a, b, c, d] := by
  match l, h with
  | [a, b, c, d], _ => exact ⟨a, b, c, d, rfl⟩
theorem wv_wOf (n : Nat) : wv (wOf n) = n % B256 := by
  unfold wOf
  rw [wv_four]
  simp only [BitVec.toNat_ofNat, B64, B256]
  omega
theorem wOf_wv (l : List (BitVec 64)) (h : l.length = 4) : wOf (wv l) = l := by
  obtain ⟨a, b, c, d, rfl⟩ := len4 l h
  have ha := a.isLt
  have hb := b.isLt
  have hc := c.isLt
  have hd := d.isLt
  rw [wv_four]
  unfold wOf
  simp only [List.cons.injEq, and_true]
  refine ⟨BitVec.eq_of_toNat_eq ?_, BitVec.eq_of_toNat_eq ?_, BitVec.eq_of_toNat_eq ?_, BitVec.eq_of_toNat_eq ?_⟩ <;> simp only [BitVec.toNat_ofNat, B64] <;> omega
theorem wOf_mod (n : Nat) : wOf (n % B256) = wOf n := by rw [← wv_wOf, wOf_wv _ (wOf_len n)]
theorem wOf_eq {m n : Nat} (h : m % B256 = n % B256) : wOf m = wOf n := by rw [← wOf_mod m, h, wOf_mod]
theorem wv_inj {l m : List (BitVec 64)} (hl : l.length = 4) (hm : m.length = 4) (h : wv l = wv m) : l = m := by rw [← wOf_wv l hl, h, wOf_wv m hm]
theorem eq_wOf {l : List (BitVec 64)} (hl : l.length = 4) {n : Nat} (h : wv l % B256 = n % B256) : l = wOf n := by rw [← wOf_wv l hl]; exact wOf_eq h
theorem wOf_small (x : BitVec 64) : [x, 0#64, 0#64, 0#64] = wOf x.toNat := by
  have hx := x.isLt
  refine eq_wOf rfl ?_
  rw [wv_four]
  simp

/-! ### sums and differences -/
def addStep (b : List (BitVec 64)) (i : Nat) (p : List (BitVec 64) × BitVec 64) : List (BitVec 64) × BitVec 64 := (p.1.set i (addF (p.1.getD i 0) (b.getD i 0) p.2).1, (addF (p.1.getD i 0) (b.getD i 0) p.2).2)
def addL (a b : List (BitVec 64)) (k : Nat) : List (BitVec 64) × BitVec 64 := itN (addStep b) k (a, 0#64)
def subStep (b : List (BitVec 64)) (i : Nat) (p : List (BitVec 64) × BitVec 64) : List (BitVec 64) × BitVec 64 := (p.1.set i (subF (p.1.getD i 0) (b.getD i 0) p.2).1, (subF (p.1.getD i 0) (b.getD i 0) p.2).2)
def subLw (a b : List (BitVec 64)) (k : Nat) : List (BitVec 64) × BitVec 64 := itN (subStep b) k (a, 0#64)
theorem addF_val (x y c : BitVec 64) (hc : c.toNat ≤ 1) : (addF x y c).1.toNat + B64 * (addF x y c).2.toNat = x.toNat + y.toNat + c.toNat ∧ (addF x y c).2.toNat ≤ 1 := by
  have hx := x.isLt
  have hy := y.isLt
  simp only [addF, BitVec.toNat_add, BitVec.toNat_ofNat, B64]
  omega
theorem subF_val (x y c : BitVec 64) (hc : c.toNat ≤ 1) : (subF x y c).1.toNat + y.toNat + c.toNat = x.toNat + B64 * (subF x y c).2.toNat ∧ (subF x y c).2.toNat ≤ 1 := by
  have hx := x.isLt
  have hy := y.isLt
  simp only [subF, BitVec.toNat_sub, B64]
  have h1 : (1#64).toNat = 1 := rfl
  have h0 : (0#64).toNat = 0 := rfl
  split
  · rw [h1]; omega
  · rw [h0]; omega
theorem addL_ok (a b : List (BitVec 64)) (ha : a.length = 4) : ∀ k, k ≤ 4 → (addL a b k).1.length = 4 ∧ (addL a b k).2.toNat ≤ 1 ∧ wvk (addL a b k).1 k + B64 ^ k * (addL a b k).2.toNat = wvk a k + wvk b k ∧ ∀ j, k ≤ j → (addL a b k).1.getD j 0 = a.getD j 0
  | 0, _ => ⟨ha, by show (0#64).toNat ≤ 1; decide, by show 0 + B64 ^ 0 * (0#64).toNat = 0 + 0; rfl, fun _ _ => rfl⟩
  | k + 1, hk => by
    obtain ⟨h1, h2, h3, h4⟩ := addL_ok a b ha k (by omega)
    have e : addL a b (k + 1) = addStep b k (addL a b k) := itN_succ _ _ _
    rw [e]
    generalize addL a b k = p at h1 h2 h3 h4
    obtain ⟨l, c⟩ := p
    dsimp only at h1 h2 h3 h4
    simp only [addStep]
    rw [h4 k (Nat.le_refl _)]
    obtain ⟨g1, g2⟩ := addF_val (a.getD k 0) (b.getD k 0) c h2
    generalize addF (a.getD k 0) (b.getD k 0) c = q at g1 g2
    refine ⟨by rw [List.length_set, h1], g2, ?_, fun j hj => by rw [getD_set_other _ _ _ _ _ (by omega)]; exact h4 j (by omega)⟩
    simp only [wvk]
    rw [getD_set_self _ _ _ _ (by omega), wvk_congr (m := l) (fun j hj => getD_set_other _ _ _ _ _ (by omega)), Nat.pow_succ, Nat.mul_assoc]
    have e2 : B64 ^ k * q.1.toNat + B64 ^ k * (B64 * q.2.toNat) = B64 ^ k * (a.getD k 0).toNat + B64 ^ k * (b.getD k 0).toNat + B64 ^ k * c.toNat := by
      rw [← Nat.mul_add, g1, Nat.mul_add, Nat.mul_add]
    omega
theorem subL_ok (a b : List (BitVec 64)) (ha : a.length = 4) : ∀ k, k ≤ 4 → (subLw a b k).1.length = 4 ∧ (subLw a b k).2.toNat ≤ 1 ∧ wvk (subLw a b k).1 k + wvk b k = wvk a k + B64 ^ k * (subLw a b k).2.toNat ∧ ∀ j, k ≤ j → (subLw a b k).1.getD j 0 = a.getD j 0
  | 0, _ => ⟨ha, by show (0#64).toNat ≤ 1; decide, by show 0 + 0 = 0 + B64 ^ 0 * (0#64).toNat; rfl, fun _ _ => rfl⟩
  | k + 1, hk => by
    obtain ⟨h1, h2, h3, h4⟩ := subL_ok a b ha k (by omega)
    have e : subLw a b (k + 1) = subStep b k (subLw a b k) := itN_succ _ _ _
    rw [e]
    generalize subLw a b k = p at h1 h2 h3 h4
    obtain ⟨l, c⟩ := p
    dsimp only at h1 h2 h3 h4
    simp only [subStep]
    rw [h4 k (Nat.le_refl _)]
    obtain ⟨g1, g2⟩ := subF_val (a.getD k 0) (b.getD k 0) c h2
    generalize subF (a.getD k 0) (b.getD k 0) c = q at g1 g2
    refine ⟨by rw [List.length_set, h1], g2, ?_, fun j hj => by rw [getD_set_other _ _ _ _ _ (by omega)]; exact h4 j (by omega)⟩
    simp only [wvk]
    rw [getD_set_self _ _ _ _ (by omega), wvk_congr (m := l) (fun j hj => getD_set_other _ _ _ _ _ (by omega)), Nat.pow_succ, Nat.mul_assoc]
    have e2 : B64 ^ k * q.1.toNat + B64 ^ k * (b.getD k 0).toNat + B64 ^ k * c.toNat = B64 ^ k * (a.getD k 0).toNat + B64 ^ k * (B64 * q.2.toNat) := by
      rw [← Nat.mul_add, ← Nat.mul_add, g1, Nat.mul_add]
    omega
/-- what a sum of words is, and its carry -/
theorem addL_eq (a b : List (BitVec 64)) (ha : a.length = 4) : (addL a b 4).1 = wOf (wv a + wv b) ∧ (addL a b 4).2 = BitVec.ofNat 64 ((wv a + wv b) / B256) := by
  obtain ⟨h1, h2, h3, _⟩ := addL_ok a b ha 4 (Nat.le_refl _)
  have hl := wvk_lt (addL a b 4).1 4
  rw [← B256_eq] at h3 hl
  refine ⟨eq_wOf h1 ?_, BitVec.eq_of_toNat_eq ?_⟩
  · show wvk (addL a b 4).1 4 % B256 = (wvk a 4 + wvk b 4) % B256
    rw [← h3, Nat.add_mul_mod_self_left]
  · rw [BitVec.toNat_ofNat]
    show _ = (wvk a 4 + wvk b 4) / B256 % 2 ^ 64
    rw [← h3, Nat.add_mul_div_left _ _ (by decide), Nat.div_eq_of_lt hl]
    omega
/-- what a difference is, and what it borrows -/
theorem subL_eq (a b : List (BitVec 64)) (ha : a.length = 4) : (subLw a b 4).1 = wOf (wv a + B256 - wv b) ∧ (subLw a b 4).2 = (if wv a < wv b then 1#64 else 0#64) := by
  obtain ⟨h1, h2, h3, _⟩ := subL_ok a b ha 4 (Nat.le_refl _)
  have hl := wvk_lt (subLw a b 4).1 4
  have hb := wvk_lt b 4
  have haa := wvk_lt a 4
  rw [← B256_eq] at h3 hl hb haa
  have hc : (subLw a b 4).2.toNat = 0 ∨ (subLw a b 4).2.toNat = 1 := by omega
  refine ⟨eq_wOf h1 ?_, BitVec.eq_of_toNat_eq ?_⟩
  · show wvk (subLw a b 4).1 4 % B256 = (wvk a 4 + B256 - wvk b 4) % B256
    rcases hc with hc | hc <;> rw [hc] at h3 <;> simp only [B256] at * <;> omega
  · show _ = (if wvk a 4 < wvk b 4 then 1#64 else 0#64 : BitVec 64).toNat
    have e1 : (1#64).toNat = 1 := rfl
    have e0 : (0#64).toNat = 0 := rfl
    rcases hc with hc | hc <;> rw [hc] at h3 ⊢
    · rw [if_neg (by omega), e0]
    · rw [if_pos (by omega), e1]
end Go.Vm

/- Products of words. -/
namespace Go.Vm
open Go
set_option linter.unusedVariables false

/-- the upper half of a product of two numbers of 64 bits, by halves -/
def hiT (x y : BitVec 64) : BitVec 64 := (x >>> 32) * (y &&& 4294967295#64) + ((x &&& 4294967295#64) * (y &&& 4294967295#64)) >>> 32
def hiF (x y : BitVec 64) : BitVec 64 := (x >>> 32) * (y >>> 32) + hiT x y >>> 32 + ((hiT x y &&& 4294967295#64) + (x &&& 4294967295#64) * (y >>> 32)) >>> 32
theorem low32 (x : BitVec 64) : (x &&& 4294967295#64).toNat = x.toNat % 4294967296 := by
  rw [BitVec.toNat_and]
  show x.toNat &&& 4294967295 = _
  rw [show (4294967295 : Nat) = 2 ^ 32 - 1 from rfl, Nat.and_two_pow_sub_one_eq_mod]
theorem high32 (x : BitVec 64) : (x >>> 32).toNat = x.toNat / 4294967296 := by
  rw [BitVec.toNat_ushiftRight, Nat.shiftRight_eq_div_pow]
theorem hiF_val (x y : BitVec 64) : (hiF x y).toNat = x.toNat * y.toNat / B64 := by
  have hx := x.isLt
  have hy := y.isLt
  obtain ⟨a, ha⟩ : ∃ a, a = x.toNat % 4294967296 := ⟨_, rfl⟩
  obtain ⟨b, hb⟩ : ∃ b, b = x.toNat / 4294967296 := ⟨_, rfl⟩
  obtain ⟨c, hc⟩ : ∃ c, c = y.toNat % 4294967296 := ⟨_, rfl⟩
  obtain ⟨d, hd⟩ : ∃ d, d = y.toNat / 4294967296 := ⟨_, rfl⟩
  have ex : x.toNat = a + 4294967296 * b := by omega
  have ey : y.toNat = c + 4294967296 * d := by omega
  have ba : a ≤ 4294967295 := by omega
  have bb : b ≤ 4294967295 := by omega
  have bc : c ≤ 4294967295 := by omega
  have bd : d ≤ 4294967295 := by omega
  have mac : a * c ≤ 4294967295 * 4294967295 := Nat.mul_le_mul ba bc
  have mad : a * d ≤ 4294967295 * 4294967295 := Nat.mul_le_mul ba bd
  have mbc : b * c ≤ 4294967295 * 4294967295 := Nat.mul_le_mul bb bc
  have mbd : b * d ≤ 4294967295 * 4294967295 := Nat.mul_le_mul bb bd
  have hT : (hiT x y).toNat = b * c + a * c / 4294967296 := by
    unfold hiT
    rw [BitVec.toNat_add, BitVec.toNat_mul, high32, low32, high32, BitVec.toNat_mul, low32, low32, ← ha, ← hb, ← hc]
    omega
  have hp : x.toNat * y.toNat = a * c + 4294967296 * (a * d) + 4294967296 * (b * c) + 18446744073709551616 * (b * d) := by
    rw [ex, ey, Nat.add_mul, Nat.mul_add, Nat.mul_add, Nat.mul_left_comm a, Nat.mul_assoc 4294967296 b c, Nat.mul_assoc 4294967296 b, Nat.mul_left_comm b, ← Nat.mul_assoc 4294967296 4294967296]
    omega
  rw [hp]
  unfold hiF
  rw [BitVec.toNat_add, BitVec.toNat_add, BitVec.toNat_mul, high32, high32, high32, high32, BitVec.toNat_add, low32, BitVec.toNat_mul, low32, high32, hT, ← ha, ← hb, ← hd]
  simp only [B64]
  generalize a * c = ac at *
  generalize a * d = ad at *
  generalize b * c = bc' at *
  generalize b * d = bd' at *
  omega

def wdStep (x : BitVec 64) (b : List (BitVec 64)) (i j : Nat) (p : List (BitVec 64) × BitVec 64) : List (BitVec 64) × BitVec 64 :=
  (p.1.set (i + j) (addF (addF (x * b.getD j 0) (p.1.getD (i + j) 0) 0#64).1 p.2 0#64).1,
   hiF x (b.getD j 0) + (addF (x * b.getD j 0) (p.1.getD (i + j) 0) 0#64).2 + (addF (addF (x * b.getD j 0) (p.1.getD (i + j) 0) 0#64).1 p.2 0#64).2)
def wdIn (x : BitVec 64) (b : List (BitVec 64)) (i k : Nat) (out : List (BitVec 64)) : List (BitVec 64) × BitVec 64 := itN (wdStep x b i) k (out, 0#64)
def wdRow (a b : List (BitVec 64)) (i : Nat) (out : List (BitVec 64)) : List (BitVec 64) := (wdIn (a.getD i 0) b i 4 out).1.set (i + 4) (wdIn (a.getD i 0) b i 4 out).2
def wideF (a b : List (BitVec 64)) (k : Nat) : List (BitVec 64) := itN (wdRow a b) k (zeros 64 8)
theorem wd_val (x y p c : BitVec 64) : (addF (addF (x * y) p 0#64).1 c 0#64).1.toNat + B64 * (hiF x y + (addF (x * y) p 0#64).2 + (addF (addF (x * y) p 0#64).1 c 0#64).2).toNat = x.toNat * y.toNat + p.toNat + c.toNat := by
  have hx := x.isLt
  have hy := y.isLt
  have hp := p.isLt
  have hc := c.isLt
  have hm : x.toNat * y.toNat ≤ 18446744073709551615 * 18446744073709551615 := Nat.mul_le_mul (by omega) (by omega)
  have z : (0#64).toNat = 0 := rfl
  obtain ⟨a1, a2⟩ := addF_val (x * y) p 0#64 (by rw [z]; omega)
  obtain ⟨c1, c2⟩ := addF_val (addF (x * y) p 0#64).1 c 0#64 (by rw [z]; omega)
  have hl : (x * y).toNat = x.toNat * y.toNat % B64 := BitVec.toNat_mul ..
  have hh := hiF_val x y
  have hdm := Nat.div_add_mod (x.toNat * y.toNat) B64
  generalize addF (addF (x * y) p 0#64).1 c 0#64 = q at c1 c2
  generalize addF (x * y) p 0#64 = r at a1 a2 c1 c2
  rw [BitVec.toNat_add, BitVec.toNat_add, hh]
  generalize x.toNat * y.toNat = m at *
  simp only [B64] at *
  omega
theorem wdIn_len (x : BitVec 64) (b : List (BitVec 64)) (i k : Nat) (out : List (BitVec 64)) : (wdIn x b i k out).1.length = out.length :=
  itN_inv (p := fun (t : List (BitVec 64) × BitVec 64) => t.1.length = out.length) (fun _ _ h => by simpa [wdStep] using h) k rfl
theorem wideF_len (a b : List (BitVec 64)) (k : Nat) : (wideF a b k).length = 8 :=
  itN_inv (p := fun (t : List (BitVec 64)) => t.length = 8) (fun _ _ h => by simp only [wdRow, List.length_set, wdIn_len]; exact h) k rfl
theorem wdIn_val {x : BitVec 64} {b : List (BitVec 64)} {i : Nat} {out : List (BitVec 64)} (hl : i + 4 ≤ out.length) : ∀ k, k ≤ 4 →
    wvk (wdIn x b i k out).1 out.length + B64 ^ (i + k) * (wdIn x b i k out).2.toNat = wvk out out.length + B64 ^ i * (x.toNat * wvk b k) ∧ ∀ j, i + k ≤ j → (wdIn x b i k out).1.getD j 0 = out.getD j 0
  | 0, _ => ⟨by show wvk out _ + _ * 0 = _ + _ * (_ * 0); omega, fun _ _ => rfl⟩
  | k + 1, hk => by
    obtain ⟨h3, h4⟩ := wdIn_val (x := x) (b := b) hl k (by omega)
    have e : wdIn x b i (k + 1) out = wdStep x b i k (wdIn x b i k out) := itN_succ _ _ _
    have hlen := wdIn_len x b i k out
    rw [e]
    generalize wdIn x b i k out = p at h3 h4 hlen
    obtain ⟨q, c⟩ := p
    dsimp only at h3 h4 hlen
    simp only [wdStep]
    have hd := wd_val x (b.getD k 0) (q.getD (i + k) 0) c
    generalize (addF (addF (x * b.getD k 0) (q.getD (i + k) 0) 0#64).1 c 0#64).1 = lo at hd ⊢
    generalize hiF x (b.getD k 0) + (addF (x * b.getD k 0) (q.getD (i + k) 0) 0#64).2 + (addF (addF (x * b.getD k 0) (q.getD (i + k) 0) 0#64).1 c 0#64).2 = hi at hd ⊢
    refine ⟨?_, fun j hj => by rw [getD_set_other _ _ _ _ _ (by omega)]; exact h4 j (by omega)⟩
    have hs := wvk_set (l := q) (i := i + k) (x := lo) (by omega) (k := out.length) (by omega)
    have e1 : B64 ^ (i + (k + 1)) = B64 ^ (i + k) * B64 := Nat.pow_succ ..
    have e2 : B64 ^ i * (x.toNat * (wvk b k + B64 ^ k * (b.getD k 0).toNat)) = B64 ^ i * (x.toNat * wvk b k) + B64 ^ (i + k) * (x.toNat * (b.getD k 0).toNat) := by
      rw [Nat.pow_add, Nat.mul_add, Nat.mul_add]
      congr 1
      rw [Nat.mul_assoc]
      congr 1
      rw [Nat.mul_left_comm]
    simp only [wvk]
    rw [e1, e2, Nat.mul_assoc]
    generalize B64 ^ (i + k) = B at *
    have e3 : B * lo.toNat + B * (B64 * hi.toNat) = B * (x.toNat * (b.getD k 0).toNat) + B * (q.getD (i + k) 0).toNat + B * c.toNat := by rw [← Nat.mul_add, hd, Nat.mul_add, Nat.mul_add]
    omega
theorem wideF_val (a b : List (BitVec 64)) : ∀ k, k ≤ 4 → wvk (wideF a b k) 8 = wvk a k * wv b ∧ ∀ j, k + 4 ≤ j → (wideF a b k).getD j 0 = 0
  | 0, _ => ⟨by show wvk (zeros 64 8) 8 = 0 * _; rw [wvk_zeros, Nat.zero_mul], fun j _ => getD_zeros ..⟩
  | k + 1, hk => by
    obtain ⟨h2, h3⟩ := wideF_val a b k (by omega)
    have hlen := wideF_len a b k
    have e : wideF a b (k + 1) = wdRow a b k (wideF a b k) := itN_succ _ _ _
    rw [e]
    generalize wideF a b k = out at h2 h3 hlen
    unfold wdRow
    obtain ⟨g3, g4⟩ := wdIn_val (x := a.getD k 0) (b := b) (i := k) (out := out) (by omega) 4 (Nat.le_refl _)
    have hl2 := wdIn_len (a.getD k 0) b k 4 out
    generalize wdIn (a.getD k 0) b k 4 out = p at g3 g4 hl2
    obtain ⟨q, c⟩ := p
    dsimp only at g3 g4 hl2
    have hs := wvk_set (l := q) (i := k + 4) (x := c) (by omega) (k := out.length) (by omega)
    rw [g4 (k + 4) (Nat.le_refl _), h3 (k + 4) (Nat.le_refl _)] at hs
    refine ⟨?_, fun j hj => ?_⟩
    · rw [hlen] at hs g3
      have e5 : wvk a (k + 1) = wvk a k + B64 ^ k * (a.getD k 0).toNat := rfl
      dsimp only
      rw [e5, Nat.add_mul, ← h2, Nat.mul_assoc]
      have : (0 : BitVec 64).toNat = 0 := rfl
      rw [this] at hs
      have hw : wv b = wvk b 4 := rfl
      rw [hw]
      omega
    · dsimp only
      rw [getD_set_other _ _ _ _ _ (by omega), g4 j (by omega), h3 j (by omega)]
/-- the whole product -/
theorem wide_eq (a b : List (BitVec 64)) : wvk (wideF a b 4) 8 = wv a * wv b := (wideF_val a b 4 (Nat.le_refl _)).1
theorem wvk_add (l : List (BitVec 64)) (m : Nat) : ∀ k, wvk l (m + k) = wvk l m + B64 ^ m * wvk (l.drop m) k
  | 0 => by simp [wvk]
  | k + 1 => by
    have ih := wvk_add l m k
    have hd : (l.drop m).getD k 0 = l.getD (m + k) 0 := by rw [List.getD_eq_getElem?_getD, List.getElem?_drop, ← List.getD_eq_getElem?_getD]
    show wvk l (m + k) + B64 ^ (m + k) * (l.getD (m + k) 0).toNat = _
    rw [ih]
    simp only [wvk]
    rw [hd, Nat.mul_add, ← Nat.mul_assoc, ← Nat.pow_add, Nat.add_assoc]
/-- its lower half is the product of words -/
theorem wide_low (a b : List (BitVec 64)) : subL (wideF a b 4) 0 4 = wOf (wv a * wv b) := by
  have hl := wideF_len a b 4
  refine eq_wOf (by rw [subL_len _ _ _ (by omega)]) ?_
  have e : wv (subL (wideF a b 4) 0 4) = wvk (wideF a b 4) 4 := wvk_congr fun i hi => by
    unfold subL
    rw [List.drop_zero, List.getD_eq_getElem?_getD, List.getElem?_take_of_lt hi, ← List.getD_eq_getElem?_getD]
  rw [e, ← wide_eq, show (8 : Nat) = 4 + 4 from rfl, wvk_add, ← B256_eq, Nat.add_mul_mod_self_left]
end Go.Vm

/- The document's words: sixteen digits of 16 bits; sums of such. -/
namespace Go.Vm
open Go
set_option linter.unusedVariables false

/-- a word's digits -/
def digF (a : List (BitVec 64)) (k : Nat) : List (BitVec 64) := itN (fun i l => l ++ [(a.getD (i / 4) 0 >>> (16 * (i % 4))) &&& 65535#64]) k []
/-- digits as a word -/
def wordF (d : List (BitVec 64)) (k : Nat) : List (BitVec 64) := itN (fun i a => a.set (i / 4) (a.getD (i / 4) 0 ||| d.getD i 0 <<< (16 * (i % 4)))) k (zeros 64 4)
def sumStep (a b : List (BitVec 64)) (i : Nat) (p : List (BitVec 64) × BitVec 64) : List (BitVec 64) × BitVec 64 :=
  (p.1 ++ [(p.2 + a.getD i 0 + b.getD i 0) &&& 65535#64], (p.2 + a.getD i 0 + b.getD i 0) >>> 16)
def sumTo (a b : List (BitVec 64)) (k : Nat) : List (BitVec 64) × BitVec 64 := itN (sumStep a b) k ([], 0#64)
def sumD (a b : List (BitVec 64)) : List (BitVec 64) := (sumTo a b (max a.length b.length)).1 ++ [(sumTo a b (max a.length b.length)).2]
theorem digF_len (a : List (BitVec 64)) (k : Nat) : (digF a k).length = k := by
  induction k with
  | zero => rfl
  | succ k ih => show (digF a k ++ _).length = _; simp [ih]
theorem wordF_len (d : List (BitVec 64)) (k : Nat) : (wordF d k).length = 4 := itN_inv (p := fun (t : List (BitVec 64)) => t.length = 4) (fun _ _ h => by simpa using h) k rfl
theorem sumTo_len (a b : List (BitVec 64)) (k : Nat) : (sumTo a b k).1.length = k := by
  induction k with
  | zero => rfl
  | succ k ih => show ((sumTo a b k).1 ++ _).length = _; simp [ih]
theorem sumD_len (a b : List (BitVec 64)) : (sumD a b).length = max a.length b.length + 1 := by
  unfold sumD
  rw [List.length_append, sumTo_len]; rfl
theorem dvk_snoc (l : List (BitVec 64)) (x : BitVec 64) : dvk (l ++ [x]) (l.length + 1) = dvk l l.length + 65536 ^ l.length * x.toNat := by
  show dvk (l ++ [x]) l.length + 65536 ^ l.length * ((l ++ [x]).getD l.length 0).toNat = _
  rw [dvk_congr (m := l) (fun i hi => getD_append_left _ _ _ _ hi), getD_append_right _ _ _ _ (Nat.le_refl _), Nat.sub_self]
  rfl
theorem okD_snoc {l : List (BitVec 64)} (h : okD l) {x : BitVec 64} (hx : x.toNat < 65536) : okD (l ++ [x]) := by
  intro i
  by_cases hi : i < l.length
  · rw [getD_append_left _ _ _ _ hi]; exact h i
  · rw [getD_append_right _ _ _ _ (by omega)]
    cases hd : i - l.length with
    | zero => exact hx
    | succ j => rw [List.getD_cons_succ, getD_off _ _ _ (Nat.zero_le _)]; decide
theorem okD_nil : okD [] := fun i => by rw [getD_off _ _ _ (Nat.zero_le _)]; decide
theorem okD_getD_zero : (0 : BitVec 64).toNat = 0 := rfl

/-- the sum of digits -/
theorem sumTo_val {a b : List (BitVec 64)} (ha : okD a) (hb : okD b) (k : Nat) : okD (sumTo a b k).1 ∧ (sumTo a b k).2.toNat ≤ 1 ∧ dvk (sumTo a b k).1 k + 65536 ^ k * (sumTo a b k).2.toNat = dvk a k + dvk b k := by
  induction k with
  | zero => exact ⟨okD_nil, by show (0#64).toNat ≤ 1; decide, rfl⟩
  | succ k ih =>
    obtain ⟨h1, h2, h3⟩ := ih
    have e : sumTo a b (k + 1) = sumStep a b k (sumTo a b k) := itN_succ _ _ _
    have hl := sumTo_len a b k
    rw [e]
    generalize sumTo a b k = p at h1 h2 h3 hl
    obtain ⟨l, c⟩ := p
    dsimp only at h1 h2 h3 hl
    simp only [sumStep]
    have xa := ha k
    have xb := hb k
    have hs : (c + a.getD k 0 + b.getD k 0).toNat = c.toNat + (a.getD k 0).toNat + (b.getD k 0).toNat := by
      rw [BitVec.toNat_add, BitVec.toNat_add]
      omega
    generalize c + a.getD k 0 + b.getD k 0 = s at hs
    refine ⟨okD_snoc h1 (by rw [low16]; omega), by rw [high16]; omega, ?_⟩
    have ds := dvk_snoc l (s &&& 65535#64)
    rw [hl] at ds
    rw [ds, low16, high16]
    simp only [dvk]
    have hdm := Nat.div_add_mod s.toNat 65536
    rw [Nat.pow_succ, Nat.mul_assoc]
    generalize 65536 ^ k = B at *
    have e4 : B * s.toNat = B * (65536 * (s.toNat / 65536)) + B * (s.toNat % 65536) := by rw [← Nat.mul_add, hdm]
    have e5 : B * s.toNat = B * c.toNat + B * (a.getD k 0).toNat + B * (b.getD k 0).toNat := by rw [hs, Nat.mul_add, Nat.mul_add]
    omega
theorem sumD_val {a b : List (BitVec 64)} (ha : okD a) (hb : okD b) : okD (sumD a b) ∧ dvk (sumD a b) (max a.length b.length + 1) = dvk a a.length + dvk b b.length := by
  obtain ⟨h1, h2, h3⟩ := sumTo_val ha hb (max a.length b.length)
  have hl := sumTo_len a b (max a.length b.length)
  unfold sumD
  refine ⟨okD_snoc h1 (by omega), ?_⟩
  have ds := dvk_snoc (sumTo a b (max a.length b.length)).1 (sumTo a b (max a.length b.length)).2
  rw [hl] at ds
  rw [ds, h3, dvk_ge a (Nat.le_max_left _ _), dvk_ge b (Nat.le_max_right _ _)]

/-! ### a word and its digits -/
theorem digF_at (a : List (BitVec 64)) (k i : Nat) (hi : i < k) : (digF a k).getD i 0 = (a.getD (i / 4) 0 >>> (16 * (i % 4))) &&& 65535#64 := by
  induction k with
  | zero => omega
  | succ k ih =>
    have e : digF a (k + 1) = digF a k ++ [(a.getD (k / 4) 0 >>> (16 * (k % 4))) &&& 65535#64] := itN_succ _ _ _
    have l := digF_len a k
    rw [e]
    by_cases h : i < k
    · rw [getD_append_left _ _ _ _ (by omega)]; exact ih h
    · obtain rfl : i = k := by omega
      rw [getD_append_right _ _ _ _ (by omega), l, Nat.sub_self]; rfl
theorem digF_ok (a : List (BitVec 64)) (k : Nat) : okD (digF a k) := by
  intro i
  by_cases h : i < k
  · rw [digF_at a k i h, low16]; omega
  · rw [getD_off _ _ _ (by rw [digF_len]; omega)]; decide
theorem dig_part (x : BitVec 64) (c : Nat) : (x >>> (16 * c) &&& 65535#64).toNat = x.toNat / 65536 ^ c % 65536 := by
  rw [low16, BitVec.toNat_ushiftRight, Nat.shiftRight_eq_div_pow, Nat.pow_mul]
/-- four digits of one part -/
theorem dig_four (a : List (BitVec 64)) (m : Nat) (hm : 4 * m + 4 ≤ 16) : dvk (digF a 16) (4 * m + 4) = dvk (digF a 16) (4 * m) + 65536 ^ (4 * m) * (a.getD m 0).toNat := by
  have d : ∀ c, c < 4 → ((digF a 16).getD (4 * m + c) 0).toNat = (a.getD m 0).toNat / 65536 ^ c % 65536 := fun c hc => by
    rw [digF_at a 16 _ (by omega), show (4 * m + c) / 4 = m by omega, show (4 * m + c) % 4 = c by omega, dig_part]
  have e : dvk (digF a 16) (4 * m + 4) = dvk (digF a 16) (4 * m) + 65536 ^ (4 * m) * ((digF a 16).getD (4 * m) 0).toNat + 65536 ^ (4 * m + 1) * ((digF a 16).getD (4 * m + 1) 0).toNat + 65536 ^ (4 * m + 2) * ((digF a 16).getD (4 * m + 2) 0).toNat + 65536 ^ (4 * m + 3) * ((digF a 16).getD (4 * m + 3) 0).toNat := rfl
  have hx := (a.getD m 0).isLt
  rw [e, show (digF a 16).getD (4 * m) 0 = (digF a 16).getD (4 * m + 0) 0 from rfl, d 0 (by omega), d 1 (by omega), d 2 (by omega), d 3 (by omega)]
  generalize (a.getD m 0).toNat = x at hx
  rw [Nat.pow_add, Nat.pow_add _ _ 2, Nat.pow_add _ _ 3]
  generalize 65536 ^ (4 * m) = B
  have hx2 : x = x / 65536 ^ 0 % 65536 + 65536 ^ 1 * (x / 65536 ^ 1 % 65536) + 65536 ^ 2 * (x / 65536 ^ 2 % 65536) + 65536 ^ 3 * (x / 65536 ^ 3 % 65536) := by
    simp only [Nat.pow_zero, Nat.reducePow] at *
    omega
  have h4 : B * x = B * (x / 65536 ^ 0 % 65536) + B * (65536 ^ 1 * (x / 65536 ^ 1 % 65536)) + B * (65536 ^ 2 * (x / 65536 ^ 2 % 65536)) + B * (65536 ^ 3 * (x / 65536 ^ 3 % 65536)) := by
    rw [← Nat.mul_add, ← Nat.mul_add, ← Nat.mul_add, ← hx2]
  rw [h4, Nat.mul_assoc, Nat.mul_assoc, Nat.mul_assoc]
  omega
theorem digF_val (a : List (BitVec 64)) : dvk (digF a 16) 16 = wv a := by
  have h0 := dig_four a 0 (by omega)
  have h1 := dig_four a 1 (by omega)
  have h2 := dig_four a 2 (by omega)
  have h3 := dig_four a 3 (by omega)
  have e : wv a = 0 + B64 ^ 0 * (a.getD 0 0).toNat + B64 ^ 1 * (a.getD 1 0).toNat + B64 ^ 2 * (a.getD 2 0).toNat + B64 ^ 3 * (a.getD 3 0).toNat := rfl
  have b0 : 65536 ^ (4 * 0) = B64 ^ 0 := by decide
  have b1 : 65536 ^ (4 * 1) = B64 ^ 1 := by decide
  have b2 : 65536 ^ (4 * 2) = B64 ^ 2 := by decide
  have b3 : 65536 ^ (4 * 3) = B64 ^ 3 := by decide
  rw [b0] at h0
  rw [b1] at h1
  rw [b2] at h2
  rw [b3] at h3
  have z : dvk (digF a 16) (4 * 0) = 0 := rfl
  rw [show (16 : Nat) = 4 * 3 + 4 from rfl] at *
  rw [h3, show 4 * 3 = 4 * 2 + 4 from rfl, h2, show 4 * 2 = 4 * 1 + 4 from rfl, h1, show 4 * 1 = 4 * 0 + 4 from rfl, h0, z, e]
end Go.Vm

/- Digits of 16 bits as a word. -/
namespace Go.Vm
open Go
set_option linter.unusedVariables false

theorem or_add (x y : BitVec 64) (c : Nat) (hc : c < 4) (hx : x.toNat < 65536 ^ c) (hy : y.toNat < 65536) : (x ||| y <<< (16 * c)).toNat = x.toNat + 65536 ^ c * y.toNat := by
  have e : 65536 ^ c = 2 ^ (16 * c) := by rw [Nat.pow_mul]
  have hs : (y <<< (16 * c)).toNat = y.toNat <<< (16 * c) := by
    rw [BitVec.toNat_shiftLeft, Nat.mod_eq_of_lt]
    rw [Nat.shiftLeft_eq]
    have h1 : 2 ^ (16 * c) ≤ 2 ^ 48 := Nat.pow_le_pow_right (by omega) (by omega)
    have h2 : y.toNat * 2 ^ (16 * c) ≤ y.toNat * 2 ^ 48 := Nat.mul_le_mul_left _ h1
    omega
  rw [BitVec.toNat_or, hs, Nat.or_comm, ← Nat.shiftLeft_add_eq_or_of_lt (by rw [← e]; exact hx), Nat.shiftLeft_eq, e, Nat.mul_comm]
  omega
theorem wordF_ok {d : List (BitVec 64)} (hd : okD d) : ∀ k, k ≤ 16 → (∀ j, j < 4 → ((wordF d k).getD j 0).toNat < 65536 ^ (k - 4 * j)) ∧ wv (wordF d k) = dvk d k
  | 0, _ => ⟨fun j hj => by show ((zeros 64 4).getD j 0).toNat < _; rw [getD_zeros, Nat.zero_sub]; decide, by show wvk (zeros 64 4) 4 = 0; exact wvk_zeros 4 4⟩
  | k + 1, hk => by
    obtain ⟨h1, h2⟩ := wordF_ok hd k (by omega)
    have hl := wordF_len d k
    have e : wordF d (k + 1) = (wordF d k).set (k / 4) ((wordF d k).getD (k / 4) 0 ||| d.getD k 0 <<< (16 * (k % 4))) := itN_succ _ _ _
    rw [e]
    generalize wordF d k = a at h1 h2 hl
    have hq : k / 4 < 4 := by omega
    have hx := h1 (k / 4) hq
    rw [show k - 4 * (k / 4) = k % 4 by omega] at hx
    have hv := or_add (a.getD (k / 4) 0) (d.getD k 0) (k % 4) (by omega) hx (hd k)
    have hy := hd k
    generalize a.getD (k / 4) 0 ||| d.getD k 0 <<< (16 * (k % 4)) = v at hv
    refine ⟨fun j hj => ?_, ?_⟩
    · by_cases hji : k / 4 = j
      · subst hji
        rw [getD_set_self _ _ _ _ (by omega), show k + 1 - 4 * (k / 4) = k % 4 + 1 by omega, Nat.pow_succ, hv]
        have : 65536 ^ (k % 4) * (d.getD k 0).toNat ≤ 65536 ^ (k % 4) * 65535 := Nat.mul_le_mul_left _ (by omega)
        omega
      · rw [getD_set_other _ _ _ _ _ hji]
        exact Nat.lt_of_lt_of_le (h1 j hj) (Nat.pow_le_pow_right (by omega) (by omega))
    · have hw := wvk_set (l := a) (i := k / 4) (x := v) (by omega) (k := 4) hq
      rw [hv, Nat.mul_add] at hw
      have hp : B64 ^ (k / 4) * (65536 ^ (k % 4) * (d.getD k 0).toNat) = 65536 ^ k * (d.getD k 0).toNat := by
        rw [← Nat.mul_assoc]
        congr 1
        rw [show B64 = 65536 ^ 4 by decide, ← Nat.pow_mul, ← Nat.pow_add]
        congr 1
        omega
      rw [hp] at hw
      have h2' : wvk a 4 = dvk d k := h2
      show wvk (a.set (k / 4) v) 4 = dvk d k + 65536 ^ k * (d.getD k 0).toNat
      omega
/-- what Word answers -/
theorem wordF_eq {d : List (BitVec 64)} (hd : okD d) : wordF d (min 16 d.length) = wOf (dvk d d.length) := by
  obtain ⟨_, h⟩ := wordF_ok hd (min 16 d.length) (Nat.min_le_left _ _)
  refine eq_wOf (wordF_len _ _) ?_
  rw [h]
  by_cases hl : d.length ≤ 16
  · rw [Nat.min_eq_right hl]
  · rw [Nat.min_eq_left (by omega)]
    have hk : ∀ n, dvk d (16 + n) % B256 = dvk d 16 % B256 := by
      intro n
      induction n with
      | zero => rfl
      | succ n ih =>
        show (dvk d (16 + n) + 65536 ^ (16 + n) * (d.getD (16 + n) 0).toNat) % B256 = _
        rw [Nat.pow_add, show 65536 ^ 16 = B256 by decide, Nat.mul_assoc, Nat.add_mul_mod_self_left, ih]
    have := hk (d.length - 16)
    rw [show 16 + (d.length - 16) = d.length by omega] at this
    exact this.symm
end Go.Vm

/- A growing row that a callee may write: its slice told by its object. -/
namespace Go.Vm
open Go
set_option linter.unusedVariables false

noncomputable def opV (k : Nat) : V → V
  | .gr k' len => if k' = k ∧ 0 < len then .os k 0 0 0 len else .gr k' len
  | v => v
noncomputable def St.opn (s : St) (k : Nat) : St := { s with env := fun t => (s.env t).map (opV k) }

section
variable {gl : Nat → Option Row} {w0 : World} {ext : Nat → Nat → Prop} {av : Nat → Prop} {φ : Nat → Option Nat} {st : St} {a : Act} {w : World}
theorem Rel.opn (h : Rel gl w0 ext av φ st a w) (k : Nat) : Rel gl w0 ext av φ (st.opn k) a w := by
  refine ⟨h.size, h.defers, fun t v ht => ?_, h.mem, h.inj, h.own, h.few, h.extav, h.avb, h.glob, h.keep⟩
  simp only [St.opn, Option.map_eq_some_iff] at ht
  obtain ⟨v0, hv0, rfl⟩ := ht
  have hv := h.env t v0 hv0
  have same : opV k v0 = v0 → VRel (cxOf φ (st.opn k).mem av w0.heap.size) w (opV k v0) (a.tmps.getD t undef) := fun e => by rw [e]; exact hv
  cases v0 with
  | gr k' len =>
    by_cases e : k' = k ∧ 0 < len
    · obtain ⟨rfl, hl⟩ := e
      simp only [opV, hl, and_self, if_true]
      obtain ⟨a', cap, e3, e4, e5⟩ := inv_gr hv
      rcases e5 with ⟨e5, e6⟩ | ⟨b, cur, ee, fr, e5, e6, _⟩
      · omega
      · rename_i e7
        exact ⟨b, cap, e5, by rw [e3, e6], e4, cur, ee, fr, e7.1, by omega⟩
    · exact same (by simp only [opV, if_neg e])
  | _ => exact same rfl
theorem Imp.opn {s t : St} (k : Nat) (h : t.Le (s.opn k)) : Imp gl w0 ext av s t := fun φ a w hr => ⟨φ, (hr.opn k).weaken h⟩
end
end Go.Vm

/- Calls of functions that hold captured places. -/
namespace Go.Vm
open Go
set_option linter.unusedVariables false

section
variable {Γ : Ctx} {all os : List Oper} {e m : Nat → Option V} {n : Nat} {st st1 : St} {R : St → Prop} {ops : Array Oper} {A : List (List Nat)} {fs : List Foot} {args caps ins outs : List V} {ret : V} {res : Res} {ck : List Nat} {f : Foot}
  {g : Nat} {l : List Operand} {ts : Array TypeId} {ty : TypeId} {pos : String} {af : Array Edge} {dst : Option Nat} {sp : FSpec} {E : Prop} {opq : Operand} {gd : Option (Nat × Bool)} {t : Nat} {as : Array Operand}

theorem argsOf_clo (hq : opnd Γ e opq = some (.clo g caps)) (h1 : mapO (opnd Γ e) as.toList = some args) : argsOf Γ e (.call { callee := .value opq, args := as, argTypes := ts }) = some (.clo g caps :: args) := by
  have e1 : (Op.call { callee := .value opq, args := as, argTypes := ts }).operands.toList = opq :: as.toList := by simp [Op.operands, Call.operands]
  simp only [argsOf, e1, mapO, hq, h1]
theorem act_clo (hf : Γ.fn g = some sp) (h2 : mapO (inV sp.refSl (restr ((V.clo g caps :: args).flatMap V.keys) m)) (args ++ caps) = some ins) (h3 : sp.run ins = some (ret, outs)) (h4 : CallOK sp.refSl (args ++ caps) ret outs) (h5 : callRes sp.refSl (dst.getD 0) (args ++ caps) ret outs = res) :
    act Γ (restr ((V.clo g caps :: args).flatMap V.keys) m) (dst.getD 0) (.call { callee := .value opq, args := as, argTypes := ts }) (.clo g caps :: args) = some res := by
  subst h5
  simp only [act, aCall, hf, h2, h3]
  rw [chk_ok ⟨h4.nodup, h4.apart, h4.outl, h4.old, Nat.le_of_ble_eq_true h4.one, h4.ret, h4.plain⟩]
  rfl
theorem DW.clo (hq : opnd Γ e opq = some (.clo g caps)) (h1 : mapO (opnd Γ e) l = some args) (hf : Γ.fn g = some sp) (h2 : mapO (inV sp.refSl (restr ((V.clo g caps :: args).flatMap V.keys) m)) (args ++ caps) = some ins) (h3 : sp.run ins = some (ret, outs)) (h4 : CallOK sp.refSl (args ++ caps) ret outs)
    (h5 : callRes sp.refSl (dst.getD 0) (args ++ caps) ret outs = res) (h6 : keysAt m ((V.clo g caps :: args).flatMap V.keys) = some ck) (h7 : dstOK n dst res = true) (h9 : St.after ⟨e, m, n⟩ dst res = some st1) (h8 : ({ ev := { dst := dst, res := res }, rk := (V.clo g caps :: args).flatMap V.keys, ck := ck } : Rec).foot = f)
    (k : DW Γ ops A (f :: fs) st1 os R) : DW Γ ops A fs ⟨e, m, n⟩ (⟨dst, .call { callee := .value opq, args := List.toArray l, argTypes := ts }, ty, pos, af, none⟩ :: os) R := by
  refine DW.op rfl ?_ h8 (app_after (o := ⟨dst, .move (.tmp 0), ty, pos, af, none⟩) h7 h9) k
  unfold recOp
  dsimp only
  rw [argsOf_clo hq (by simpa using h1)]
  dsimp only
  rw [act_clo hf h2 h3 h4 h5]
  dsimp only
  rw [kO_else (by rfl) h6]
  dsimp only
  rw [chk_ok h7]

structure DWclo (Γ : Ctx) (ops : Array Oper) (A : List (List Nat)) (fs : List Foot) (e m : Nat → Option V) (n : Nat) (dst : Option Nat) (t : Nat) (l : List Operand) (ts : Array TypeId) (ty : TypeId) (pos : String) (af : Array Edge) (gd : Option (Nat × Bool)) (os : List Oper) (R : St → Prop) : Prop where
  out : DW Γ ops A fs ⟨e, m, n⟩ (⟨dst, .call { callee := .value (.tmp t), args := List.toArray l, argTypes := ts }, ty, pos, af, gd⟩ :: os) R
theorem DW.toClo (h : DWclo Γ ops A fs e m n dst t l ts ty pos af none os R) : DW Γ ops A fs ⟨e, m, n⟩ (⟨dst, .call { callee := .value (.tmp t), args := List.toArray l, argTypes := ts }, ty, pos, af, none⟩ :: os) R := h.out
theorem DWclo.go (he : E) (k : DW Γ ops A (f :: fs) st1 os R)
    (hq : opnd Γ e (.tmp t) = some (.clo g caps) := by simp (disch := omega) only [↓mapO_opn, ↓mapO_onil, ↓opnd_tmp, ↓opnd_const, ↓opnd_func, ↓opnd_glob, ↓put_at, ↓purge_at, lookN_at, lookN, purge1_val, purge1_none, V.keys, V.keys1, constV, chk_ok, chk_true, ByteArray.size, Option.map_some, argV, List.length_cons, List.length_nil, List.size_toArray, ↓reduceIte, Nat.reduceLT, Nat.reduceLeDiff, Nat.reduceAdd, Nat.reduceEqDiff, Nat.reduceBEq, beq_self_eq_true, Bool.true_or, Bool.or_true, and_self, and_true, true_and, true_or, or_true, false_or, or_false, Bool.or_false, Bool.false_or, Int.reduceLE, Int.reduceLT, Int.reduceNeg, BitVec.reduceOfInt, List.getElem?_cons_zero, List.getElem?_cons_succ, reduceCtorEq, Bool.false_eq_true, List.flatMap_cons, List.flatMap_nil, List.append_nil, List.nil_append, List.cons_append, List.any_cons, List.any_nil, List.contains_cons, List.contains_nil, Bool.not_true, Bool.not_false] <;> rfl)
    (h1 : mapO (opnd Γ e) l = some args := by simp (disch := omega) only [↓mapO_opn, ↓mapO_onil, ↓opnd_tmp, ↓opnd_const, ↓opnd_func, ↓opnd_glob, ↓put_at, ↓purge_at, lookN_at, lookN, purge1_val, purge1_none, V.keys, V.keys1, constV, chk_ok, chk_true, ByteArray.size, Option.map_some, argV, List.length_cons, List.length_nil, List.size_toArray, ↓reduceIte, Nat.reduceLT, Nat.reduceLeDiff, Nat.reduceAdd, Nat.reduceEqDiff, Nat.reduceBEq, beq_self_eq_true, Bool.true_or, Bool.or_true, and_self, and_true, true_and, true_or, or_true, false_or, or_false, Bool.or_false, Bool.false_or, Int.reduceLE, Int.reduceLT, Int.reduceNeg, BitVec.reduceOfInt, List.getElem?_cons_zero, List.getElem?_cons_succ, reduceCtorEq, Bool.false_eq_true, List.flatMap_cons, List.flatMap_nil, List.append_nil, List.nil_append, List.cons_append, List.any_cons, List.any_nil, List.contains_cons, List.contains_nil, Bool.not_true, Bool.not_false] <;> rfl)
    (hf : Γ.fn g = some sp := by rfl)
    (h2 : E → mapO (inV sp.refSl (restr ((V.clo g caps :: args).flatMap V.keys) m)) (args ++ caps) = some ins := by intro zz; simp (disch := omega) only [go_sem, List.take_zero, List.take_succ_cons, and_false, false_and, not_false_eq_true, ↓act, ↓restr_eq, ↓ctx_ty, ↓ctx_fn, ↓put_at, ↓purge_at, mapO, lookN, Option.getD_some, Option.map_some, Option.bind_some, List.length_cons, List.length_nil, List.length_append, List.length_set, List.toList_toArray, ↓reduceIte, ↓reduceDIte, Nat.reduceLT, Nat.reduceLeDiff, Nat.reduceAdd, Nat.reduceMul, Nat.reduceSub, Nat.reduceEqDiff, Nat.reduceBEq, beq_self_eq_true, Bool.true_or, Bool.or_true, and_self, and_true, true_and, not_true_eq_false, decide_true, decide_false, decide_eq_true_eq, Option.isNone_none, Option.isNone_some, List.isEmpty_nil, Option.isSome_some, true_or, or_true, false_or, or_false, Bool.and_true, Bool.true_and, Bool.or_false, Bool.false_or, Bool.not_true, Bool.not_false, Int.reduceLE, Int.reduceLT, Int.reduceNeg, Int.reduceAdd, Int.reduceMul, Int.reduceSub, Int.reduceToNat, BitVec.reduceOfInt, List.getElem?_cons_zero, List.getElem?_cons_succ, reduceCtorEq, Bool.false_eq_true, List.flatMap_cons, List.flatMap_nil, List.append_nil, List.nil_append, List.cons_append, Option.isSome_none, List.set_cons_zero, List.set_cons_succ, List.getD_cons_zero, List.getD_cons_succ, List.size_toArray, u8_lt, u16_lt, u32_lt, List.map_cons, List.map_nil, List.filterMap_nil, List.filterMap_cons, List.head?_nil, List.head?_cons, List.zip_cons_cons, List.zip_nil_left, List.zip_nil_right, List.any_cons, List.any_nil, List.all_cons, List.all_nil, List.contains_cons, List.contains_nil, Int.toNat_natCast, Int.toNat_zero, BitVec.toNat_ofNat, Nat.reducePow, Nat.reduceMod, toN_add, Nat.zero_add, Nat.add_zero, Nat.mul_one, Nat.zero_mul, zz] <;> rfl)
    (h3 : E → sp.run ins = some (ret, outs) := by intro zz; first | rfl | exact chk_ok (by omega) | (simp (disch := omega) only [go_sem, List.take_zero, List.take_succ_cons, and_false, false_and, not_false_eq_true, ↓act, ↓restr_eq, ↓ctx_ty, ↓ctx_fn, ↓put_at, ↓purge_at, mapO, lookN, Option.getD_some, Option.map_some, Option.bind_some, List.length_cons, List.length_nil, List.length_append, List.length_set, List.toList_toArray, ↓reduceIte, ↓reduceDIte, Nat.reduceLT, Nat.reduceLeDiff, Nat.reduceAdd, Nat.reduceMul, Nat.reduceSub, Nat.reduceEqDiff, Nat.reduceBEq, beq_self_eq_true, Bool.true_or, Bool.or_true, and_self, and_true, true_and, not_true_eq_false, decide_true, decide_false, decide_eq_true_eq, Option.isNone_none, Option.isNone_some, List.isEmpty_nil, Option.isSome_some, true_or, or_true, false_or, or_false, Bool.and_true, Bool.true_and, Bool.or_false, Bool.false_or, Bool.not_true, Bool.not_false, Int.reduceLE, Int.reduceLT, Int.reduceNeg, Int.reduceAdd, Int.reduceMul, Int.reduceSub, Int.reduceToNat, BitVec.reduceOfInt, List.getElem?_cons_zero, List.getElem?_cons_succ, reduceCtorEq, Bool.false_eq_true, List.flatMap_cons, List.flatMap_nil, List.append_nil, List.nil_append, List.cons_append, Option.isSome_none, List.set_cons_zero, List.set_cons_succ, List.getD_cons_zero, List.getD_cons_succ, List.size_toArray, u8_lt, u16_lt, u32_lt, List.map_cons, List.map_nil, List.filterMap_nil, List.filterMap_cons, List.head?_nil, List.head?_cons, List.zip_cons_cons, List.zip_nil_left, List.zip_nil_right, List.any_cons, List.any_nil, List.all_cons, List.all_nil, List.contains_cons, List.contains_nil, Int.toNat_natCast, Int.toNat_zero, BitVec.toNat_ofNat, Nat.reducePow, Nat.reduceMod, toN_add, Nat.zero_add, Nat.add_zero, Nat.mul_one, Nat.zero_mul, zz] <;> rfl))
    (h4 : CallOK sp.refSl (args ++ caps) ret outs := by refine ⟨rfl, rfl, rfl, ?_, rfl, rfl, rfl⟩; first | exact .inl rfl | exact .inr rfl)
    (h5 : callRes sp.refSl (dst.getD 0) (args ++ caps) ret outs = res := by simp (disch := omega) only [go_sem, List.take_zero, List.take_succ_cons, and_false, false_and, not_false_eq_true, ↓act, ↓restr_eq, ↓ctx_ty, ↓ctx_fn, ↓put_at, ↓purge_at, mapO, lookN, Option.getD_some, Option.map_some, Option.bind_some, List.length_cons, List.length_nil, List.length_append, List.length_set, List.toList_toArray, ↓reduceIte, ↓reduceDIte, Nat.reduceLT, Nat.reduceLeDiff, Nat.reduceAdd, Nat.reduceMul, Nat.reduceSub, Nat.reduceEqDiff, Nat.reduceBEq, beq_self_eq_true, Bool.true_or, Bool.or_true, and_self, and_true, true_and, not_true_eq_false, decide_true, decide_false, decide_eq_true_eq, Option.isNone_none, Option.isNone_some, List.isEmpty_nil, Option.isSome_some, true_or, or_true, false_or, or_false, Bool.and_true, Bool.true_and, Bool.or_false, Bool.false_or, Bool.not_true, Bool.not_false, Int.reduceLE, Int.reduceLT, Int.reduceNeg, Int.reduceAdd, Int.reduceMul, Int.reduceSub, Int.reduceToNat, BitVec.reduceOfInt, List.getElem?_cons_zero, List.getElem?_cons_succ, reduceCtorEq, Bool.false_eq_true, List.flatMap_cons, List.flatMap_nil, List.append_nil, List.nil_append, List.cons_append, Option.isSome_none, List.set_cons_zero, List.set_cons_succ, List.getD_cons_zero, List.getD_cons_succ, List.size_toArray, u8_lt, u16_lt, u32_lt, List.map_cons, List.map_nil, List.filterMap_nil, List.filterMap_cons, List.head?_nil, List.head?_cons, List.zip_cons_cons, List.zip_nil_left, List.zip_nil_right, List.any_cons, List.any_nil, List.all_cons, List.all_nil, List.contains_cons, List.contains_nil, Int.toNat_natCast, Int.toNat_zero, BitVec.toNat_ofNat, Nat.reducePow, Nat.reduceMod, toN_add, Nat.zero_add, Nat.add_zero, Nat.mul_one, Nat.zero_mul] <;> rfl)
    (h6 : keysAt m ((V.clo g caps :: args).flatMap V.keys) = some ck := by simp (disch := omega) only [go_sem, List.take_zero, List.take_succ_cons, and_false, false_and, not_false_eq_true, ↓act, ↓restr_eq, ↓ctx_ty, ↓ctx_fn, ↓put_at, ↓purge_at, mapO, lookN, Option.getD_some, Option.map_some, Option.bind_some, List.length_cons, List.length_nil, List.length_append, List.length_set, List.toList_toArray, ↓reduceIte, ↓reduceDIte, Nat.reduceLT, Nat.reduceLeDiff, Nat.reduceAdd, Nat.reduceMul, Nat.reduceSub, Nat.reduceEqDiff, Nat.reduceBEq, beq_self_eq_true, Bool.true_or, Bool.or_true, and_self, and_true, true_and, not_true_eq_false, decide_true, decide_false, decide_eq_true_eq, Option.isNone_none, Option.isNone_some, List.isEmpty_nil, Option.isSome_some, true_or, or_true, false_or, or_false, Bool.and_true, Bool.true_and, Bool.or_false, Bool.false_or, Bool.not_true, Bool.not_false, Int.reduceLE, Int.reduceLT, Int.reduceNeg, Int.reduceAdd, Int.reduceMul, Int.reduceSub, Int.reduceToNat, BitVec.reduceOfInt, List.getElem?_cons_zero, List.getElem?_cons_succ, reduceCtorEq, Bool.false_eq_true, List.flatMap_cons, List.flatMap_nil, List.append_nil, List.nil_append, List.cons_append, Option.isSome_none, List.set_cons_zero, List.set_cons_succ, List.getD_cons_zero, List.getD_cons_succ, List.size_toArray, u8_lt, u16_lt, u32_lt, List.map_cons, List.map_nil, List.filterMap_nil, List.filterMap_cons, List.head?_nil, List.head?_cons, List.zip_cons_cons, List.zip_nil_left, List.zip_nil_right, List.any_cons, List.any_nil, List.all_cons, List.all_nil, List.contains_cons, List.contains_nil, Int.toNat_natCast, Int.toNat_zero, BitVec.toNat_ofNat, Nat.reducePow, Nat.reduceMod, toN_add, Nat.zero_add, Nat.add_zero, Nat.mul_one, Nat.zero_mul] <;> rfl)
    (h7 : dstOK n dst res = true := by rfl)
    (h9 : St.after ⟨e, m, n⟩ dst res = some st1 := by first | exact aft_val rfl | exact aft_none | exact aft_newv rfl | exact aft_updn | exact aft_updv rfl | exact aft_updp rfl | (simp (disch := omega) only [go_sem, List.take_zero, List.take_succ_cons, and_false, false_and, not_false_eq_true, ↓act, ↓restr_eq, ↓ctx_ty, ↓ctx_fn, ↓put_at, ↓purge_at, mapO, lookN, Option.getD_some, Option.map_some, Option.bind_some, List.length_cons, List.length_nil, List.length_append, List.length_set, List.toList_toArray, ↓reduceIte, ↓reduceDIte, Nat.reduceLT, Nat.reduceLeDiff, Nat.reduceAdd, Nat.reduceMul, Nat.reduceSub, Nat.reduceEqDiff, Nat.reduceBEq, beq_self_eq_true, Bool.true_or, Bool.or_true, and_self, and_true, true_and, not_true_eq_false, decide_true, decide_false, decide_eq_true_eq, Option.isNone_none, Option.isNone_some, List.isEmpty_nil, Option.isSome_some, true_or, or_true, false_or, or_false, Bool.and_true, Bool.true_and, Bool.or_false, Bool.false_or, Bool.not_true, Bool.not_false, Int.reduceLE, Int.reduceLT, Int.reduceNeg, Int.reduceAdd, Int.reduceMul, Int.reduceSub, Int.reduceToNat, BitVec.reduceOfInt, List.getElem?_cons_zero, List.getElem?_cons_succ, reduceCtorEq, Bool.false_eq_true, List.flatMap_cons, List.flatMap_nil, List.append_nil, List.nil_append, List.cons_append, Option.isSome_none, List.set_cons_zero, List.set_cons_succ, List.getD_cons_zero, List.getD_cons_succ, List.size_toArray, u8_lt, u16_lt, u32_lt, List.map_cons, List.map_nil, List.filterMap_nil, List.filterMap_cons, List.head?_nil, List.head?_cons, List.zip_cons_cons, List.zip_nil_left, List.zip_nil_right, List.any_cons, List.any_nil, List.all_cons, List.all_nil, List.contains_cons, List.contains_nil, Int.toNat_natCast, Int.toNat_zero, BitVec.toNat_ofNat, Nat.reducePow, Nat.reduceMod, toN_add, Nat.zero_add, Nat.add_zero, Nat.mul_one, Nat.zero_mul] <;> rfl))
    (h8 : ({ ev := { dst := dst, res := res }, rk := (V.clo g caps :: args).flatMap V.keys, ck := ck } : Rec).foot = f := by simp only [Rec.foot, Ev.app, purgeIf_nil, purgeIf_cons, updM_nil, updM_cons, newM_none, newM_some, V.keys, V.keys1, List.map_cons, List.map_nil, List.filterMap_nil, List.filterMap_cons, List.head?_nil, List.head?_cons, List.flatMap_cons, List.flatMap_nil, List.append_nil, List.nil_append, List.cons_append] <;> rfl) : DWclo Γ ops A fs e m n dst t l ts ty pos af none os R :=
  ⟨DW.clo hq h1 hf (h2 he) (h3 he) h4 h5 h6 h7 h9 h8 k⟩
end
end Go.Vm

/- Calls of functions that hold captured places, one after another. -/
namespace Go.Vm
open Go
set_option linter.unusedVariables false

section
variable {Γ : Ctx} {all os : List Oper} {e m : Nat → Option V} {n : Nat} {st st1 : St} {R : St → Prop} {args caps ins outs : List V} {ret : V} {res : Res}
  {g : Nat} {l : List Operand} {ts : Array TypeId} {ty : TypeId} {pos : String} {af : Array Edge} {dst : Option Nat} {sp : FSpec} {E : Prop} {opq : Operand} {gd : Option (Nat × Bool)} {t : Nat}

theorem SW.clo (hq : opnd Γ e opq = some (.clo g caps)) (h1 : mapO (opnd Γ e) l = some args) (hf : Γ.fn g = some sp) (h2 : mapO (inV sp.refSl (restr ((V.clo g caps :: args).flatMap V.keys) m)) (args ++ caps) = some ins) (h3 : sp.run ins = some (ret, outs)) (h4 : CallOK sp.refSl (args ++ caps) ret outs)
    (h5 : callRes sp.refSl (dst.getD 0) (args ++ caps) ret outs = res) (h6 : St.after ⟨e, m, n⟩ dst res = some st1)
    (k : SW Γ all st1 os R) : SW Γ all ⟨e, m, n⟩ (⟨dst, .call { callee := .value opq, args := List.toArray l, argTypes := ts }, ty, pos, af, none⟩ :: os) R := by
  refine SW.op rfl ?_ k
  unfold runOp
  dsimp only
  rw [argsOf_clo hq (by simpa using h1)]
  dsimp only
  rw [act_clo hf h2 h3 h4 h5]
  exact h6

structure SWclo (Γ : Ctx) (all : List Oper) (e m : Nat → Option V) (n : Nat) (dst : Option Nat) (t : Nat) (l : List Operand) (ts : Array TypeId) (ty : TypeId) (pos : String) (af : Array Edge) (gd : Option (Nat × Bool)) (os : List Oper) (R : St → Prop) : Prop where
  out : SW Γ all ⟨e, m, n⟩ (⟨dst, .call { callee := .value (.tmp t), args := List.toArray l, argTypes := ts }, ty, pos, af, gd⟩ :: os) R
theorem SW.toClo (h : SWclo Γ all e m n dst t l ts ty pos af none os R) : SW Γ all ⟨e, m, n⟩ (⟨dst, .call { callee := .value (.tmp t), args := List.toArray l, argTypes := ts }, ty, pos, af, none⟩ :: os) R := h.out
theorem SWclo.go (he : E) (k : SW Γ all st1 os R)
    (hq : opnd Γ e (.tmp t) = some (.clo g caps) := by simp (disch := omega) only [↓mapO_opn, ↓mapO_onil, ↓opnd_tmp, ↓opnd_const, ↓opnd_func, ↓opnd_glob, ↓put_at, ↓purge_at, lookN_at, lookN, purge1_val, purge1_none, V.keys, V.keys1, constV, chk_ok, chk_true, ByteArray.size, Option.map_some, argV, List.length_cons, List.length_nil, List.size_toArray, ↓reduceIte, Nat.reduceLT, Nat.reduceLeDiff, Nat.reduceAdd, Nat.reduceEqDiff, Nat.reduceBEq, beq_self_eq_true, Bool.true_or, Bool.or_true, and_self, and_true, true_and, true_or, or_true, false_or, or_false, Bool.or_false, Bool.false_or, Int.reduceLE, Int.reduceLT, Int.reduceNeg, BitVec.reduceOfInt, List.getElem?_cons_zero, List.getElem?_cons_succ, reduceCtorEq, Bool.false_eq_true, List.flatMap_cons, List.flatMap_nil, List.append_nil, List.nil_append, List.cons_append, List.any_cons, List.any_nil, List.contains_cons, List.contains_nil, Bool.not_true, Bool.not_false] <;> rfl)
    (h1 : mapO (opnd Γ e) l = some args := by simp (disch := omega) only [↓mapO_opn, ↓mapO_onil, ↓opnd_tmp, ↓opnd_const, ↓opnd_func, ↓opnd_glob, ↓put_at, ↓purge_at, lookN_at, lookN, purge1_val, purge1_none, V.keys, V.keys1, constV, chk_ok, chk_true, ByteArray.size, Option.map_some, argV, List.length_cons, List.length_nil, List.size_toArray, ↓reduceIte, Nat.reduceLT, Nat.reduceLeDiff, Nat.reduceAdd, Nat.reduceEqDiff, Nat.reduceBEq, beq_self_eq_true, Bool.true_or, Bool.or_true, and_self, and_true, true_and, true_or, or_true, false_or, or_false, Bool.or_false, Bool.false_or, Int.reduceLE, Int.reduceLT, Int.reduceNeg, BitVec.reduceOfInt, List.getElem?_cons_zero, List.getElem?_cons_succ, reduceCtorEq, Bool.false_eq_true, List.flatMap_cons, List.flatMap_nil, List.append_nil, List.nil_append, List.cons_append, List.any_cons, List.any_nil, List.contains_cons, List.contains_nil, Bool.not_true, Bool.not_false] <;> rfl)
    (hf : Γ.fn g = some sp := by rfl)
    (h2 : E → mapO (inV sp.refSl (restr ((V.clo g caps :: args).flatMap V.keys) m)) (args ++ caps) = some ins := by intro zz; simp (disch := omega) only [go_sem, List.take_zero, List.take_succ_cons, and_false, false_and, not_false_eq_true, ↓act, ↓restr_eq, ↓ctx_ty, ↓ctx_fn, ↓put_at, ↓purge_at, mapO, lookN, Option.getD_some, Option.map_some, Option.bind_some, List.length_cons, List.length_nil, List.length_append, List.length_set, List.toList_toArray, ↓reduceIte, ↓reduceDIte, Nat.reduceLT, Nat.reduceLeDiff, Nat.reduceAdd, Nat.reduceMul, Nat.reduceSub, Nat.reduceEqDiff, Nat.reduceBEq, beq_self_eq_true, Bool.true_or, Bool.or_true, and_self, and_true, true_and, not_true_eq_false, decide_true, decide_false, decide_eq_true_eq, Option.isNone_none, Option.isNone_some, List.isEmpty_nil, Option.isSome_some, true_or, or_true, false_or, or_false, Bool.and_true, Bool.true_and, Bool.or_false, Bool.false_or, Bool.not_true, Bool.not_false, Int.reduceLE, Int.reduceLT, Int.reduceNeg, Int.reduceAdd, Int.reduceMul, Int.reduceSub, Int.reduceToNat, BitVec.reduceOfInt, List.getElem?_cons_zero, List.getElem?_cons_succ, reduceCtorEq, Bool.false_eq_true, List.flatMap_cons, List.flatMap_nil, List.append_nil, List.nil_append, List.cons_append, Option.isSome_none, List.set_cons_zero, List.set_cons_succ, List.getD_cons_zero, List.getD_cons_succ, List.size_toArray, u8_lt, u16_lt, u32_lt, List.map_cons, List.map_nil, List.filterMap_nil, List.filterMap_cons, List.head?_nil, List.head?_cons, List.zip_cons_cons, List.zip_nil_left, List.zip_nil_right, List.any_cons, List.any_nil, List.all_cons, List.all_nil, List.contains_cons, List.contains_nil, Int.toNat_natCast, Int.toNat_zero, BitVec.toNat_ofNat, Nat.reducePow, Nat.reduceMod, toN_add, Nat.zero_add, Nat.add_zero, Nat.mul_one, Nat.zero_mul, zz] <;> rfl)
    (h3 : E → sp.run ins = some (ret, outs) := by intro zz; first | rfl | exact chk_ok (by omega) | (simp (disch := omega) only [go_sem, List.take_zero, List.take_succ_cons, and_false, false_and, not_false_eq_true, ↓act, ↓restr_eq, ↓ctx_ty, ↓ctx_fn, ↓put_at, ↓purge_at, mapO, lookN, Option.getD_some, Option.map_some, Option.bind_some, List.length_cons, List.length_nil, List.length_append, List.length_set, List.toList_toArray, ↓reduceIte, ↓reduceDIte, Nat.reduceLT, Nat.reduceLeDiff, Nat.reduceAdd, Nat.reduceMul, Nat.reduceSub, Nat.reduceEqDiff, Nat.reduceBEq, beq_self_eq_true, Bool.true_or, Bool.or_true, and_self, and_true, true_and, not_true_eq_false, decide_true, decide_false, decide_eq_true_eq, Option.isNone_none, Option.isNone_some, List.isEmpty_nil, Option.isSome_some, true_or, or_true, false_or, or_false, Bool.and_true, Bool.true_and, Bool.or_false, Bool.false_or, Bool.not_true, Bool.not_false, Int.reduceLE, Int.reduceLT, Int.reduceNeg, Int.reduceAdd, Int.reduceMul, Int.reduceSub, Int.reduceToNat, BitVec.reduceOfInt, List.getElem?_cons_zero, List.getElem?_cons_succ, reduceCtorEq, Bool.false_eq_true, List.flatMap_cons, List.flatMap_nil, List.append_nil, List.nil_append, List.cons_append, Option.isSome_none, List.set_cons_zero, List.set_cons_succ, List.getD_cons_zero, List.getD_cons_succ, List.size_toArray, u8_lt, u16_lt, u32_lt, List.map_cons, List.map_nil, List.filterMap_nil, List.filterMap_cons, List.head?_nil, List.head?_cons, List.zip_cons_cons, List.zip_nil_left, List.zip_nil_right, List.any_cons, List.any_nil, List.all_cons, List.all_nil, List.contains_cons, List.contains_nil, Int.toNat_natCast, Int.toNat_zero, BitVec.toNat_ofNat, Nat.reducePow, Nat.reduceMod, toN_add, Nat.zero_add, Nat.add_zero, Nat.mul_one, Nat.zero_mul, zz] <;> rfl))
    (h4 : CallOK sp.refSl (args ++ caps) ret outs := by refine ⟨rfl, rfl, rfl, ?_, rfl, rfl, rfl⟩; first | exact .inl rfl | exact .inr rfl)
    (h5 : callRes sp.refSl (dst.getD 0) (args ++ caps) ret outs = res := by simp (disch := omega) only [go_sem, List.take_zero, List.take_succ_cons, and_false, false_and, not_false_eq_true, ↓act, ↓restr_eq, ↓ctx_ty, ↓ctx_fn, ↓put_at, ↓purge_at, mapO, lookN, Option.getD_some, Option.map_some, Option.bind_some, List.length_cons, List.length_nil, List.length_append, List.length_set, List.toList_toArray, ↓reduceIte, ↓reduceDIte, Nat.reduceLT, Nat.reduceLeDiff, Nat.reduceAdd, Nat.reduceMul, Nat.reduceSub, Nat.reduceEqDiff, Nat.reduceBEq, beq_self_eq_true, Bool.true_or, Bool.or_true, and_self, and_true, true_and, not_true_eq_false, decide_true, decide_false, decide_eq_true_eq, Option.isNone_none, Option.isNone_some, List.isEmpty_nil, Option.isSome_some, true_or, or_true, false_or, or_false, Bool.and_true, Bool.true_and, Bool.or_false, Bool.false_or, Bool.not_true, Bool.not_false, Int.reduceLE, Int.reduceLT, Int.reduceNeg, Int.reduceAdd, Int.reduceMul, Int.reduceSub, Int.reduceToNat, BitVec.reduceOfInt, List.getElem?_cons_zero, List.getElem?_cons_succ, reduceCtorEq, Bool.false_eq_true, List.flatMap_cons, List.flatMap_nil, List.append_nil, List.nil_append, List.cons_append, Option.isSome_none, List.set_cons_zero, List.set_cons_succ, List.getD_cons_zero, List.getD_cons_succ, List.size_toArray, u8_lt, u16_lt, u32_lt, List.map_cons, List.map_nil, List.filterMap_nil, List.filterMap_cons, List.head?_nil, List.head?_cons, List.zip_cons_cons, List.zip_nil_left, List.zip_nil_right, List.any_cons, List.any_nil, List.all_cons, List.all_nil, List.contains_cons, List.contains_nil, Int.toNat_natCast, Int.toNat_zero, BitVec.toNat_ofNat, Nat.reducePow, Nat.reduceMod, toN_add, Nat.zero_add, Nat.add_zero, Nat.mul_one, Nat.zero_mul] <;> rfl)
    (h6 : St.after ⟨e, m, n⟩ dst res = some st1 := by first | exact aft_val rfl | exact aft_none | exact aft_newv rfl | exact aft_updn | exact aft_updv rfl | exact aft_updp rfl | (simp (disch := omega) only [go_sem, List.take_zero, List.take_succ_cons, and_false, false_and, not_false_eq_true, ↓act, ↓restr_eq, ↓ctx_ty, ↓ctx_fn, ↓put_at, ↓purge_at, mapO, lookN, Option.getD_some, Option.map_some, Option.bind_some, List.length_cons, List.length_nil, List.length_append, List.length_set, List.toList_toArray, ↓reduceIte, ↓reduceDIte, Nat.reduceLT, Nat.reduceLeDiff, Nat.reduceAdd, Nat.reduceMul, Nat.reduceSub, Nat.reduceEqDiff, Nat.reduceBEq, beq_self_eq_true, Bool.true_or, Bool.or_true, and_self, and_true, true_and, not_true_eq_false, decide_true, decide_false, decide_eq_true_eq, Option.isNone_none, Option.isNone_some, List.isEmpty_nil, Option.isSome_some, true_or, or_true, false_or, or_false, Bool.and_true, Bool.true_and, Bool.or_false, Bool.false_or, Bool.not_true, Bool.not_false, Int.reduceLE, Int.reduceLT, Int.reduceNeg, Int.reduceAdd, Int.reduceMul, Int.reduceSub, Int.reduceToNat, BitVec.reduceOfInt, List.getElem?_cons_zero, List.getElem?_cons_succ, reduceCtorEq, Bool.false_eq_true, List.flatMap_cons, List.flatMap_nil, List.append_nil, List.nil_append, List.cons_append, Option.isSome_none, List.set_cons_zero, List.set_cons_succ, List.getD_cons_zero, List.getD_cons_succ, List.size_toArray, u8_lt, u16_lt, u32_lt, List.map_cons, List.map_nil, List.filterMap_nil, List.filterMap_cons, List.head?_nil, List.head?_cons, List.zip_cons_cons, List.zip_nil_left, List.zip_nil_right, List.any_cons, List.any_nil, List.all_cons, List.all_nil, List.contains_cons, List.contains_nil, Int.toNat_natCast, Int.toNat_zero, BitVec.toNat_ofNat, Nat.reducePow, Nat.reduceMod, toN_add, Nat.zero_add, Nat.add_zero, Nat.mul_one, Nat.zero_mul] <;> rfl)) : SWclo Γ all e m n dst t l ts ty pos af none os R :=
  ⟨SW.clo hq h1 hf (h2 he) (h3 he) h4 h5 h6 k⟩
end
end Go.Vm


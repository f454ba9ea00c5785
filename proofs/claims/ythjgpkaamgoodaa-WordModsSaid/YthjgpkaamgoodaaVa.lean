/- The abstract machine by which the walks of this claim are made: part 1 of 4. Nothing in it speaks of a program. -/
import Derived.Below
import Derived.Orders
import Derived.Laws.Rows
import Derived.Laws.Cells
import Derived.Laws.CopyRow
import Derived.Laws.AppendOwn
import Derived.Laws.OwnMore
import Derived.Laws.StructEq
import Derived.Laws.BytesString
import Derived.WalkKit
import Derived.Laws.Pointers
/- The abstract values, states and the relation between them and the model's worlds. -/
namespace Go.Vm
open Go
set_option linter.unusedVariables false

abbrev Bytes := List (BitVec 8)
def LIM : Nat := 140737488355328

inductive Row where
  | u (w : Nat) (xs : List (BitVec w))
  | i (xs : List Int)
  | s (xs : List Bytes)
  | b (f : Bool) (xs : List Bytes)
  | a (xs : List (Int × Int × Bytes))

inductive V where
  | u (w : Nat) (x : BitVec w)
  | i (n : Int)
  | b (x : Bool)
  | s (bs : Bytes)
  | agg (n : Nat) (r : Row)
  | sl (fr : Bool) (r : Row)
  | nils
  | rp (r : Row) (i : Nat)
  | p (k f o i : Nat)
  | nilp
  | os (k f o i len : Nat)
  | gr (k len : Nat)
  | row (r : Row)
  | st (fs : List V)
  | tup (xs : List V)
  | clo (g : Nat) (caps : List V)
  | ref (f o : Nat) (c : V)
  | any

def Row.len : Row → Nat
  | .u _ xs => xs.length
  | .i xs => xs.length
  | .s xs => xs.length
  | .b _ xs => xs.length
  | .a xs => xs.length

def Row.esz : Row → Nat
  | .a _ => 3
  | _ => 1

def kw (w : Nat) : IntKind := if w = 8 then .u8 else if w = 16 then .u16 else if w = 32 then .u32 else .u64
def okW (w : Nat) : Prop := w = 8 ∨ w = 16 ∨ w = 32 ∨ w = 64
def inR (n : Int) : Prop := -9223372036854775808 ≤ n ∧ n ≤ 9223372036854775807
def bytesOf (s : ByteArray) : Bytes := s.data.toList.map UInt8.toBitVec
def ic (w : Nat) (x : BitVec w) : Value := .int (kw w) (x.toNat : Int)
def ii (n : Int) : Value := .int .i64 n

/-- two lists, element by element -/
def All2 {α β : Type} (R : α → β → Prop) : List α → List β → Prop
  | [], [] => True
  | a :: as, b :: bs => R a b ∧ All2 R as bs
  | _, _ => False

theorem All2.length {α β : Type} {R : α → β → Prop} : ∀ {as : List α} {bs : List β}, All2 R as bs → as.length = bs.length
  | [], [], _ => rfl
  | _ :: _, _ :: _, h => by simp [All2.length h.2]
  | [], _ :: _, h => h.elim
  | _ :: _, [], h => h.elim

theorem All2.mono {α β : Type} {R S : α → β → Prop} (hRS : ∀ a b, R a b → S a b) : ∀ {as : List α} {bs : List β}, All2 R as bs → All2 S as bs
  | [], [], _ => trivial
  | _ :: _, _ :: _, h => ⟨hRS _ _ h.1, All2.mono hRS h.2⟩
  | [], _ :: _, h => h.elim
  | _ :: _, [], h => h.elim

theorem All2.get {α β : Type} {R : α → β → Prop} : ∀ {as : List α} {bs : List β}, All2 R as bs → ∀ (j : Nat) (a : α), as[j]? = some a → ∃ b, bs[j]? = some b ∧ R a b
  | [], [], _, j, a, h => by simp at h
  | x :: as, y :: bs, h, 0, a, e => by simp at e; subst e; exact ⟨y, by simp, h.1⟩
  | x :: as, y :: bs, h, j + 1, a, e => by simp at e; simpa using All2.get h.2 j a e
  | [], _ :: _, h, _, _, _ => h.elim
  | _ :: _, [], h, _, _, _ => h.elim

theorem All2.of_get {α β : Type} {R : α → β → Prop} : ∀ {as : List α} {bs : List β}, as.length = bs.length → (∀ (j : Nat) (a : α) (b : β), as[j]? = some a → bs[j]? = some b → R a b) → All2 R as bs
  | [], [], _, _ => trivial
  | x :: as, y :: bs, hl, h => ⟨h 0 x y (by simp) (by simp), All2.of_get (by simpa using hl) (fun j a b ha hb => h (j + 1) a b (by simpa using ha) (by simpa using hb))⟩
  | [], _ :: _, hl, _ => by simp at hl
  | _ :: _, [], hl, _ => by simp at hl

theorem All2.set {α β : Type} {R : α → β → Prop} : ∀ {as : List α} {bs : List β}, All2 R as bs → ∀ (j : Nat) (a : α) (b : β), R a b → All2 R (as.set j a) (bs.set j b)
  | [], [], _, _, _, _, _ => trivial
  | x :: as, y :: bs, h, 0, a, b, e => ⟨e, h.2⟩
  | x :: as, y :: bs, h, j + 1, a, b, e => ⟨h.1, All2.set h.2 j a b e⟩
  | [], _ :: _, h, _, _, _, _ => h.elim
  | _ :: _, [], h, _, _, _, _ => h.elim

/-- what a relation hangs on: where each key's object lies; which blocks may be written; where the call began -/
structure Cx where
  φ : Nat → Option Nat
  N : Nat → Prop
  base : Nat

def Cx.fr (c : Cx) (fresh : Bool) : Nat → Prop := if fresh then fun b => c.N b ∨ b < c.base else c.N

/-- a cell that is only read -/
def roCell (w : World) (N : Nat → Prop) (blk o : Nat) (v : Value) : Prop := ¬ N blk ∧ w.cell? ⟨blk, o, none⟩ = some v

/-- a slice of bytes that is only read -/
def slB (w : World) (N : Nat → Prop) (v : Value) (x : Bytes) : Prop :=
  ∃ a len cap, v = .slice a len cap ∧ len = x.length ∧ len ≤ cap ∧ x.length ≤ LIM ∧
    (x.length = 0 ∨ ∃ blk off, a = some ⟨blk, off, none⟩ ∧ ∀ j y, x[j]? = some y → roCell w N blk (off + j) (.int .u8 (y.toNat : Int)))

/-- a row of cells that is only read -/
def rowAt (w : World) (c : Cx) (fr : Bool) (blk off : Nat) : Row → Prop
  | .u wd xs => okW wd ∧ ∀ j x, xs[j]? = some x → roCell w (c.fr fr) blk (off + j) (ic wd x)
  | .i xs => ∀ j x, xs[j]? = some x → roCell w (c.fr fr) blk (off + j) (ii x) ∧ inR x
  | .s xs => ∀ j x, xs[j]? = some x → ∃ s, roCell w (c.fr fr) blk (off + j) (.string s) ∧ bytesOf s = x ∧ x.length ≤ LIM
  | .b f xs => ∀ j x, xs[j]? = some x → ∃ v, roCell w (c.fr fr) blk (off + j) v ∧ slB w (c.fr f) v x
  | .a xs => ∀ j x, xs[j]? = some x → roCell w (c.fr fr) blk (off + 3 * j) (ii x.1) ∧ inR x.1 ∧ roCell w (c.fr fr) blk (off + 3 * j + 1) (ii x.2.1) ∧ inR x.2.1 ∧
      ∃ v, roCell w (c.fr fr) blk (off + 3 * j + 2) v ∧ slB w (c.fr false) v x.2.2

def okR : Row → Prop
  | .u wd _ => okW wd
  | _ => True

def slR (w : World) (c : Cx) (fr : Bool) (v : Value) (r : Row) : Prop :=
  ∃ a len cap, v = .slice a len cap ∧ len = r.len ∧ len ≤ cap ∧ r.len ≤ LIM ∧ okR r ∧ (r.len = 0 ∨ ∃ blk off, a = some ⟨blk, off, none⟩ ∧ rowAt w c fr blk off r)

def V.keys1 : V → List Nat
  | .p k _ _ _ => [k]
  | .os k _ _ _ _ => [k]
  | .gr k _ => [k]
  | _ => []

def V.keys : V → List Nat
  | .st fs => fs.flatMap V.keys1
  | .tup xs => xs.flatMap V.keys1
  | .clo _ caps => caps.flatMap V.keys1
  | v => v.keys1

/-- a flat value and its cells -/
def FRel (c : Cx) (w : World) : V → List Value → Prop
  | .u wd x, cs => okW wd ∧ cs = [ic wd x]
  | .i n, cs => inR n ∧ cs = [ii n]
  | .b x, cs => cs = [.bool x]
  | .s bs, cs => ∃ s, cs = [.string s] ∧ bytesOf s = bs ∧ bs.length ≤ LIM
  | .agg n (.u wd xs), cs => okW wd ∧ xs.length = n ∧ cs = xs.map (ic wd)
  | .agg n (.i xs), cs => xs.length = n ∧ cs = xs.map ii ∧ ∀ x ∈ xs, inR x
  | .sl fr r, cs => ∃ v, cs = [v] ∧ slR w c fr v r
  | .nils, cs => cs = [.slice none 0 0]
  | .rp r i, cs => ∃ blk off, cs = [.pointer (some ⟨blk, off + i * r.esz, none⟩)] ∧ rowAt w c false blk off r
  | .p k _ o i, cs => ∃ b, c.φ k = some b ∧ cs = [.pointer (some ⟨b, o + i, none⟩)]
  | .nilp, cs => cs = [.pointer none]
  | .os k _ o i len, cs => ∃ b cap, c.φ k = some b ∧ cs = [.slice (some ⟨b, o + i, none⟩) len cap] ∧ len ≤ cap ∧ ∃ cur e fr, w.heap[b]? = some (.cells cur e fr) ∧ o + i + cap ≤ cur.size
  | .gr k len, cs => ∃ a cap, cs = [.slice a len cap] ∧ len ≤ cap ∧
      ((a = none ∧ cap = 0) ∨ ∃ b cur e fr, c.φ k = some b ∧ a = some ⟨b, 0, none⟩ ∧ w.heap[b]? = some (.cells cur e fr) ∧ cap ≤ cur.size)
  | _, _ => False

/-- a value -/
def VRel (c : Cx) (w : World) : V → Value → Prop
  | .agg n r, v => ∃ cs, v = .agg cs ∧ FRel c w (.agg n r) cs.toList
  | .st fs, v => ∃ cs css, v = .agg cs ∧ cs.toList = css.flatten ∧ All2 (FRel c w) fs css
  | .tup xs, v => ∃ vs, v = .tuple vs ∧ All2 (fun x u => (∃ n r cs, x = .agg n r ∧ u = .agg cs ∧ FRel c w (.agg n r) cs.toList) ∨ ((∀ n r, x ≠ .agg n r) ∧ FRel c w x [u])) xs vs.toList
  | .clo g caps, v => ∃ vs, v = .func (.func g) #[] vs ∧ All2 (fun x u => (∀ n r, x ≠ .agg n r) ∧ FRel c w x [u]) caps vs.toList
  | .any, _ => True
  | x, v => FRel c w x [v]

/-- the cells of a row -/
def rowVals (c : Cx) (w : World) : Row → List Value → Prop
  | .u wd xs, vs => okW wd ∧ vs = xs.map (ic wd)
  | .i xs, vs => vs = xs.map ii ∧ ∀ x ∈ xs, inR x
  | .s xs, vs => All2 (fun x v => ∃ s, v = .string s ∧ bytesOf s = x ∧ x.length ≤ LIM) xs vs
  | .b f xs, vs => All2 (fun x v => slB w (c.fr f) v x) xs vs
  | .a _, _ => False

/-- an own object's cells: what a growing row holds ahead of its spare room -/
def rowIn (c : Cx) (w : World) (cs : List Value) (r : Row) : Prop := ∃ vs spare, cs = vs ++ spare ∧ rowVals c w r vs

def CRel (c : Cx) (w : World) (cs : List Value) : V → Prop
  | .row r => rowIn c w cs r
  | .st fs => ∃ css, cs = css.flatten ∧ All2 (FRel c w) fs css
  | x => FRel c w x cs

def ORel (c : Cx) (w : World) (k : Nat) (x : V) : Prop :=
  (∃ b cur e, c.φ k = some b ∧ w.heap[b]? = some (.cells cur e (0, 0)) ∧ CRel c w cur.toList x) ∨
  (c.φ k = none ∧ k < 1000 ∧ ∃ r, x = .row r ∧ r.len = 0 ∧ CRel c w [] x)

/-- below what the call began with nothing has turned but in the blocks that were handed in to be written -/
structure Keep (ext : Nat → Prop) (w w' : World) : Prop where
  os : w'.os = w.os
  tape : w'.tape = w.tape
  output : w'.output = w.output
  size : w.heap.size ≤ w'.heap.size
  block : ∀ k, k < w.heap.size → ¬ ext k → w'.heap[k]? = w.heap[k]?
  shape : ∀ (b : Nat) (cur : Array Value) (e : TypeId) (fr : Nat × Nat), w.heap[b]? = some (Obj.cells cur e fr) → ∃ (cur1 : Array Value) (fr1 : Nat × Nat), w'.heap[b]? = some (Obj.cells cur1 e fr1) ∧ cur1.size = cur.size

structure St where
  env : Nat → Option V
  mem : Nat → Option V
  n : Nat

def ownOf (φ : Nat → Option Nat) (mem : Nat → Option V) (b : Nat) : Prop := ∃ k x, mem k = some x ∧ φ k = some b

def cxOf (φ : Nat → Option Nat) (mem : Nat → Option V) (av : Nat → Prop) (base : Nat) : Cx :=
  { φ := φ, N := fun b => ownOf φ mem b ∨ av b, base := base }

/-- the blocks that were handed in to be written: each with its key -/
def exB (ext : Nat → Nat → Prop) : Nat → Prop := fun b => ∃ k, ext k b

structure Rel (gl : Nat → Option Row) (w0 : World) (ext : Nat → Nat → Prop) (av : Nat → Prop) (φ : Nat → Option Nat) (st : St) (a : Act) (w : World) : Prop where
  size : a.tmps.size = st.n
  defers : a.defers = []
  env : ∀ t v, st.env t = some v → VRel (cxOf φ st.mem av w0.heap.size) w v (a.tmps.getD t undef)
  mem : ∀ k x, st.mem k = some x → ORel (cxOf φ st.mem av w0.heap.size) w k x
  inj : ∀ k k' x x' b, st.mem k = some x → st.mem k' = some x' → φ k = some b → φ k' = some b → k = k'
  own : ∀ k x b, st.mem k = some x → φ k = some b → (w0.heap.size ≤ b ∧ k < 1000) ∨ (ext k b ∧ 1000 ≤ k)
  few : st.n ≤ 1000
  extav : ∀ k b, ext k b → av b
  avb : ∀ b, av b → b < w0.heap.size
  glob : ∀ g r, gl g = some r → rowAt w (cxOf φ st.mem av w0.heap.size) false g 0 r
  keep : Keep (exB ext) w0 w

end Go.Vm

/- Types as the evaluator sees them, and the evaluator of one operation. -/
namespace Go.Vm
open Go
set_option linter.unusedVariables false

inductive Ty where
  | b | u (w : Nat) | i | s | sl (e : Ty) | p | arr (n : Nat) (e : Ty) | st (fs : List Ty) | o

mutual
def Ty.size : Ty → Nat
  | .arr n e => n * e.size
  | .st fs => Ty.sizes fs
  | _ => 1
def Ty.sizes : List Ty → Nat
  | [] => 0
  | t :: ts => t.size + Ty.sizes ts
end

/-- at most so many bytes -/
def Ty.bsz : Ty → Nat
  | .u 8 => 1
  | .u 16 => 2
  | .u 32 => 4
  | .u _ => 8
  | .i => 8
  | .b => 1
  | .p => 8
  | .s => 16
  | t => 24 * t.size

def Ty.flat : Ty → Bool
  | .arr _ _ => false
  | .st _ => false
  | _ => true

/-- what an array of it is made of at the bottom -/
def Ty.root : Ty → Ty
  | .arr _ e => e.root
  | t => t

def zeros (w n : Nat) : List (BitVec w) := List.replicate n 0
def zeroI (n : Nat) : List Int := List.replicate n 0

/-- what is asked on the way: what isn't so ends the evaluation -/
noncomputable def chk {α : Type} (c : Prop) (x : Option α) : Option α := @ite _ c (Classical.propDecidable c) x none
theorem chk_ok {α : Type} {c : Prop} {x : Option α} (h : c) : chk c x = x := by unfold chk; exact if_pos h
theorem chk_some {α : Type} {c : Prop} {x : Option α} {y : α} (h : chk c x = some y) : c ∧ x = some y := by
  unfold chk at h
  by_cases hc : c
  · rw [if_pos hc] at h; exact ⟨hc, h⟩
  · rw [if_neg hc] at h; exact absurd h (by simp)

def okU (w : Nat) : Bool := w == 8 || w == 16 || w == 32 || w == 64

noncomputable def Ty.zero1 : Ty → Option V
  | .b => some (.b false)
  | .u w => chk (okU w = true) (some (.u w 0))
  | .i => some (.i 0)
  | .s => some (.s [])
  | .sl _ => some .nils
  | .p => some .nilp
  | .arr n e => match e.root with
    | .u w => chk (okU w = true) (some (.agg (n * e.size) (.u w (zeros w (n * e.size)))))
    | .i => some (.agg (n * e.size) (.i (zeroI (n * e.size))))
    | _ => none
  | _ => none

def mapO {α β : Type} (f : α → Option β) : List α → Option (List β)
  | [] => some []
  | a :: as => match f a with
    | some b => match mapO f as with
      | some bs => some (b :: bs)
      | none => none
    | none => none

noncomputable def Ty.zero : Ty → Option V
  | .st fs => (mapO Ty.zero1 fs).map .st
  | t => t.zero1

/-- how many cells -/
def V.len1 : V → Nat
  | .agg n _ => n
  | _ => 1
def sumL : List Nat → Nat
  | [] => 0
  | a :: as => a + sumL as
def V.vlen : V → Nat
  | .st fs => sumL (fs.map V.len1)
  | v => v.len1

def castL {w w' : Nat} (h : w' = w) (xs : List (BitVec w')) : List (BitVec w) := h ▸ xs
def castB {w w' : Nat} (h : w' = w) (x : BitVec w') : BitVec w := h ▸ x
@[simp] theorem castL_rfl {w : Nat} (h : w = w) (xs : List (BitVec w)) : castL h xs = xs := rfl
@[simp] theorem castB_rfl {w : Nat} (h : w = w) (x : BitVec w) : castB h x = x := rfl

def subL {α : Type} (xs : List α) (i n : Nat) : List α := (xs.drop i).take n

noncomputable def Row.get : Row → Nat → Option V
  | .u w xs, j => some (.u w (xs.getD j 0))
  | .i xs, j => some (.i (xs.getD j 0))
  | .s xs, j => some (.s (xs.getD j []))
  | .b f xs, j => some (.sl f (.u 8 (xs.getD j [])))
  | .a xs, j => some (.st [.i (xs.getD j default).1, .i (xs.getD j default).2.1, .sl false (.u 8 (xs.getD j default).2.2)])

noncomputable def Row.sub (r : Row) (j n : Nat) : Row :=
  if j = 0 ∧ n = r.len then r else
  match r with
  | .u w xs => .u w (subL xs j n)
  | .i xs => .i (subL xs j n)
  | .s xs => .s (subL xs j n)
  | .b f xs => .b f (subL xs j n)
  | .a xs => .a (subL xs j n)

noncomputable def Row.set : Row → Nat → V → Option Row
  | .u w xs, j, .u w' x => if h : w' = w then some (.u w (xs.set j (castB h x))) else none
  | .i xs, j, .i x => some (.i (xs.set j x))
  | _, _, _ => none

noncomputable def Row.app : Row → Row → Option Row
  | .u w xs, .u w' ys => if h : w' = w then some (.u w (xs ++ castL h ys)) else none
  | .i xs, .i ys => some (.i (xs ++ ys))
  | .s xs, .s ys => some (.s (xs ++ ys))
  | .b f xs, .b g ys => some (.b (f && g) (xs ++ ys))
  | _, _ => none

/-- the first elements of r are written over those of q from place i on -/
noncomputable def splL {α : Type} (xs : List α) (i : Nat) (ys : List α) : List α := xs.take i ++ ys ++ xs.drop (i + ys.length)
noncomputable def Row.splice : Row → Nat → Row → Option Row
  | .u w xs, j, .u w' ys => if h : w' = w then some (.u w (splL xs j (castL h ys))) else none
  | .i xs, j, .i ys => some (.i (splL xs j ys))
  | _, _, _ => none

noncomputable def offs (fs : List V) (f : Nat) : Nat := sumL ((fs.take f).map V.len1)

/-- the part of an object at which a pointer points: the whole, or a field of a struct -/
noncomputable def subV (c : V) (f o : Nat) : Option V :=
  if f = 0 then (chk (o = 0) (some c)) else
  match c with
  | .st fs => chk (offs fs (f - 1) = o) (fs[f - 1]?)
  | _ => none

noncomputable def putSub (c : V) (f : Nat) (x : V) : V :=
  if f = 0 then x else
  match c with
  | .st fs => .st (fs.set (f - 1) x)
  | c => c

noncomputable def fits : Ty → V → Bool
  | .st ts, .st fs => Ty.sizes ts == sumL (fs.map V.len1)
  | .st _, _ => false
  | .arr _ _, _ => false
  | _, .st _ => false
  | _, .row _ => false
  | _, _ => true

/-- what is read at type ty, i cells behind the begin of x -/
noncomputable def rd (ty : Ty) (x : V) (i : Nat) : Option V :=
  match x with
  | .agg n r => match ty with
    | .arr m e => if i = 0 ∧ m * e.size = n then some (.agg n r) else chk (i + m * e.size ≤ n) (some (.agg (m * e.size) (r.sub i (m * e.size))))
    | .st _ => none
    | _ => chk (i < n) (r.get i)
  | .row r => chk (ty.flat = true ∧ i < r.len) (r.get i)
  | x => chk (i = 0 ∧ fits ty x = true) (some x)

def V.isFlat : V → Bool
  | .u _ _ => true
  | .i _ => true
  | .b _ => true
  | .s _ => true
  | .sl _ _ => true
  | .nils => true
  | .rp _ _ => true
  | .p _ _ _ _ => true
  | .nilp => true
  | .os _ _ _ _ _ => true
  | .gr _ _ => true
  | _ => false

/-- x, with v written i cells behind its begin -/
noncomputable def wr (x : V) (i : Nat) (v : V) : Option V :=
  match x with
  | .agg n r => match v with
    | .agg m q => if i = 0 ∧ m = n then some (.agg n q) else chk (i + m ≤ n) ((r.splice i q).map (.agg n))
    | v => chk (v.isFlat = true ∧ i < n) ((r.set i v).map (.agg n))
  | .row r => chk (v.isFlat = true ∧ i < r.len) ((r.set i v).map .row)
  | .st fs => match v with
    | .st gs => chk (i = 0 ∧ fs.map V.len1 = gs.map V.len1) (some (.st gs))
    | _ => none
  | x => chk (x.isFlat = true ∧ v.isFlat = true ∧ i = 0) (some v)

structure Res where
  v : V
  upd : List (Nat × V) := []
  new : Option V := none
  pg : List Nat := []

structure FSpec where
  refSl : Bool := false
  run : List V → Option (V × List V)

structure Ctx where
  ty : Nat → Option Ty
  gl : Nat → Option Row
  fn : Nat → Option FSpec

noncomputable def constV : Value → Option V
  | .int .u8 n => chk (0 ≤ n ∧ n < 256) (some (.u 8 (BitVec.ofInt 8 n)))
  | .int .u16 n => chk (0 ≤ n ∧ n < 65536) (some (.u 16 (BitVec.ofInt 16 n)))
  | .int .u32 n => chk (0 ≤ n ∧ n < 4294967296) (some (.u 32 (BitVec.ofInt 32 n)))
  | .int .u64 n => chk (0 ≤ n ∧ n < 18446744073709551616) (some (.u 64 (BitVec.ofInt 64 n)))
  | .int .i64 n => chk (-9223372036854775808 ≤ n ∧ n ≤ 9223372036854775807) (some (.i n))
  | .bool b => some (.b b)
  | .string s => chk (s.size ≤ 1000000) (some (.s (bytesOf s)))
  | .pointer none => some .nilp
  | .slice none 0 0 => some .nils
  | .tuple vs => chk (vs.size = 0) (some (.tup []))
  | _ => none

noncomputable def opnd (Γ : Ctx) (e : Nat → Option V) : Operand → Option V
  | .tmp t => e t
  | .const c => constV c
  | .global g => (Γ.gl g).map (.rp · 0)
  | .func f => some (.clo f [])

/-! ### the operations -/

noncomputable def inRB (n : Int) : Bool := decide (-9223372036854775808 ≤ n) && decide (n ≤ 9223372036854775807)
noncomputable def chkI (n : Int) : Option V := chk (inRB n = true) (some (.i n))

noncomputable def binU (op : BinOp) {w : Nat} (x y : BitVec w) : Option V :=
  match op with
  | .add => some (.u w (x + y))
  | .sub => some (.u w (x - y))
  | .mul => some (.u w (x * y))
  | .quo => if y = 0 then none else some (.u w (x / y))
  | .rem => if y = 0 then none else some (.u w (x % y))
  | .and => some (.u w (x &&& y))
  | .or => some (.u w (x ||| y))
  | .xor => some (.u w (x ^^^ y))
  | .andNot => some (.u w (x &&& ~~~y))
  | .eql => some (.b (decide (x = y)))
  | .neq => some (.b (!decide (x = y)))
  | .lss => some (.b (decide (x < y)))
  | .leq => some (.b (decide (x ≤ y)))
  | .gtr => some (.b (decide (y < x)))
  | .geq => some (.b (decide (y ≤ x)))
  | _ => none

noncomputable def binI (op : BinOp) (x y : Int) : Option V :=
  match op with
  | .add => chkI (x + y)
  | .sub => chkI (x - y)
  | .mul => chkI (x * y)
  | .quo => chk (0 ≤ x ∧ 0 < y) (some (.i (x / y)))
  | .rem => chk (0 ≤ x ∧ 0 < y) (some (.i (x % y)))
  | .or => chk (0 ≤ x ∧ 0 ≤ y) (some (.i ((x.toNat ||| y.toNat : Nat) : Int)))
  | .xor => chk (0 ≤ x ∧ 0 ≤ y) (some (.i ((x.toNat ^^^ y.toNat : Nat) : Int)))
  | .and => chk (0 ≤ x ∧ 0 ≤ y) (some (.i ((x.toNat &&& y.toNat : Nat) : Int)))
  | .eql => some (.b (decide (x = y)))
  | .neq => some (.b (!decide (x = y)))
  | .lss => some (.b (decide (x < y)))
  | .leq => some (.b (decide (x ≤ y)))
  | .gtr => some (.b (decide (y < x)))
  | .geq => some (.b (decide (y ≤ x)))
  | _ => none

/-- by how much is shifted -/
noncomputable def amount : V → Option Nat
  | .u _ y => some y.toNat
  | .i n => chk (0 ≤ n) (some n.toNat)
  | _ => none

noncomputable def shU (op : BinOp) {w : Nat} (x : BitVec w) (n : Nat) : Option V :=
  match op with
  | .shl => some (.u w (x <<< n))
  | .shr => some (.u w (x >>> n))
  | _ => none

noncomputable def isSh : BinOp → Bool
  | .shl | .shr => true
  | _ => false

noncomputable def aBin (Γ : Ctx) (op : BinOp) (t : Nat) (x y : V) : Option V :=
  if isSh op = true then
    match x with
    | .u w a => (amount y).bind (shU op a)
    | .i a => match op with
      | .shl => (amount y).bind fun n => chk (0 ≤ a ∧ n ≤ 62) (chkI (a * ((2 ^ n : Nat) : Int)))
      | .shr => (amount y).bind fun n => chk (0 ≤ a ∧ n ≤ 62) (some (.i (a / ((2 ^ n : Nat) : Int))))
      | _ => none
    | _ => none
  else
  match x with
  | .u w a => match y with
    | .u w' c => if h : w' = w then binU op a (castB h c) else none
    | _ => none
  | .i a => match y with
    | .i c => binI op a c
    | _ => none
  | .b a => match y with
    | .b c => match Γ.ty t with
      | some .b => match op with
        | .eql => some (.b (a == c))
        | .neq => some (.b (!(a == c)))
        | _ => none
      | _ => none
    | _ => none
  | .s a => match y with
    | .s c => match op with
      | .eql => some (.b (decide (a = c)))
      | .neq => some (.b (!decide (a = c)))
      | .add => chk (a.length + c.length ≤ LIM) (some (.s (a ++ c)))
      | _ => none
    | _ => none
  | .agg n (.u w a) => match y with
    | .agg m (.u w' c) => match Γ.ty t with
      | some (.arr k (.u _)) => if h : w' = w then chk (k = n ∧ m = n) (match op with
          | .eql => some (.b (decide (a = castL h c)))
          | .neq => some (.b (!decide (a = castL h c)))
          | _ => none) else none
      | _ => none
    | _ => none
  | .p _ _ _ _ => match y with
    | .nilp => match Γ.ty t with
      | some .p => match op with
        | .eql => some (.b false)
        | .neq => some (.b true)
        | _ => none
      | _ => none
    | _ => none
  | .nilp => match y with
    | .nilp => match Γ.ty t with
      | some .p => match op with
        | .eql => some (.b true)
        | .neq => some (.b false)
        | _ => none
      | _ => none
    | _ => none
  | _ => none

noncomputable def aUn (op : UnOp) (x : V) : Option V :=
  match x with
  | .u w a => match op with
    | .xor => some (.u w (~~~a))
    | .neg => some (.u w (-a))
    | _ => none
  | .i a => match op with
    | .neg => chkI (-a)
    | _ => none
  | .b a => match op with
    | .not => some (.b (!a))
    | _ => none
  | _ => none

/-- the content of a slice -/
noncomputable def rowOf (M : Nat → Option V) : V → Option Row
  | .sl _ r => chk (r.esz = 1) (some r)
  | .gr k len => match M k with
    | some (.row r) => chk (len ≤ r.len) (some (r.sub 0 len))
    | _ => none
  | .os k f o i len => match M k with
    | some c => match subV c f o with
      | some (.agg n r) => chk (i + len ≤ n) (some (r.sub i len))
      | some (.row r) => chk (i + len ≤ r.len) (some (r.sub i len))
      | _ => none
    | _ => none
  | _ => none

noncomputable def aConv (Γ : Ctx) (M : Nat → Option V) (src dst : Nat) (x : V) : Option V :=
  match Γ.ty src with
  | none => none
  | some sty =>
  match Γ.ty dst with
  | some (.u w) => match x with
    | .u _ a => some (.u w (a.setWidth w))
    | .i n => some (.u w (BitVec.ofInt w n))
    | _ => none
  | some .i => match x with
    | .u _ a => chk (a.toNat < 9223372036854775808) (some (.i (a.toNat : Int)))
    | .i n => some (.i n)
    | _ => none
  | some .s => match sty with
    | .sl (.u 8) => match rowOf M x with
      | some (.u 8 xs) => chk (xs.length ≤ LIM) (some (.s xs))
      | _ => none
    | _ => none
  | _ => none

noncomputable def bndB (hi : Option V) (dflt n : Nat) : Option Nat :=
  match hi with
  | none => some dflt
  | some (.i h) => chk (0 ≤ h ∧ h ≤ n) (some h.toNat)
  | some _ => none

/-- the bounds of a slicing: low, high; at most n -/
noncomputable def bnd (lo hi mx : Option V) (n : Nat) : Option (Nat × Nat) :=
  match bndB hi n n with
  | none => none
  | some h => match bndB lo 0 h with
    | none => none
    | some l => match mx with
      | none => some (l, h)
      | some (.i m) => chk (m = h) (some (l, h))
      | some _ => none

noncomputable def okRB : Row → Bool
  | .u w _ => okU w
  | _ => true

/-- how many cells a part has at the least -/
noncomputable def roomV : V → Nat
  | .agg n _ => n
  | .row r => r.len
  | _ => 0

noncomputable def aSlice (Γ : Ctx) (M : Nat → Option V) (t : Nat) (x : V) (lo hi mx : Option V) : Option V :=
  match x with
  | .sl fr r => match mx with
    | none => match bnd lo hi none r.len with
      | some (l, h) => match Γ.ty t with
        | some (.sl e) => chk (e.size = r.esz) (some (.sl fr (r.sub l (h - l))))
        | _ => none
      | none => none
    | _ => none
  | .nils => match mx with
    | none => match bnd lo hi none 0 with
      | some (l, h) => match Γ.ty t with
        | some (.sl e) => some .nils
        | _ => none
      | none => none
    | _ => none
  | .gr k len => match bnd lo hi mx len with
    | some (l, h) => match Γ.ty t with
      | some (.sl e) => chk (e.size = 1) (if l = 0 then some (.gr k h) else match mx with
        | none => chk (l < h) (some (.os k 0 0 l (h - l)))
        | _ => none)
      | _ => none
    | none => none
  | .os k f o i len => match mx with
    | none => match bnd lo hi none len with
      | some (l, h) => match Γ.ty t with
        | some (.sl e) => chk (e.size = 1 ∧ l < h) (some (.os k f o (i + l) (h - l)))
        | _ => none
      | none => none
    | _ => none
  | .p k f o i => match mx with
    | none => match Γ.ty t with
      | some (.arr n e) => match bnd lo hi none n with
        | some (l, h) => match M k with
          | some c => match subV c f o with
            | some s => chk (e.size = 1 ∧ (l < h ∨ l = 0) ∧ i + n ≤ roomV s) (some (.os k f o (i + l) (h - l)))
            | none => none
          | none => none
        | none => none
      | _ => none
    | _ => none
  | .rp r i => match mx with
    | none => match Γ.ty t with
      | some (.arr n e) => match bnd lo hi none n with
        | some (l, h) => chk (e.size = 1 ∧ l < h ∧ i + n ≤ r.len ∧ r.esz = 1 ∧ n ≤ 1000000 ∧ okRB r = true) (some (.sl false (r.sub (i + l) (h - l))))
        | none => none
      | _ => none
    | _ => none
  | .s bs => match mx with
    | none => match bnd lo hi none bs.length with
      | some (l, h) => match Γ.ty t with
        | some .s => some (.s (subL bs l (h - l)))
        | _ => none
      | none => none
    | _ => none
  | _ => none

noncomputable def aIdxAddr (Γ : Ctx) (t : Nat) (x : V) (ix : V) : Option V :=
  match ix with
  | .i n =>
    match x with
    | .sl _ r => match Γ.ty t with
      | some (.sl e) => chk (0 ≤ n ∧ n < r.len ∧ e.size = r.esz) (some (.rp r n.toNat))
      | _ => none
    | .gr k len => match Γ.ty t with
      | some (.sl e) => chk (0 ≤ n ∧ n < len ∧ e.size = 1) (some (.p k 0 0 n.toNat))
      | _ => none
    | .os k f o i len => match Γ.ty t with
      | some (.sl e) => chk (0 ≤ n ∧ n < len ∧ e.size = 1) (some (.p k f o (i + n.toNat)))
      | _ => none
    | .p k f o i => match Γ.ty t with
      | some (.arr m e) => chk (0 ≤ n ∧ n < m) (some (.p k f o (i + n.toNat * e.size)))
      | _ => none
    | .rp r i => match Γ.ty t with
      | some (.arr m e) => chk (0 ≤ n ∧ n < m ∧ r.esz = 1) (some (.rp r (i + n.toNat * e.size)))
      | _ => none
    | _ => none
  | _ => none

/-- an index that has no sign, as one that has -/
noncomputable def normIx : V → V
  | .u _ m => if m.toNat < 9223372036854775808 then .i (m.toNat : Int) else .any
  | v => v

noncomputable def aIdx (Γ : Ctx) (t : Nat) (x : V) (ix : V) : Option V :=
  match ix with
  | .i n =>
    match x with
    | .agg k r => match Γ.ty t with
      | some (.arr m e) => chk (0 ≤ n ∧ n < m ∧ m * e.size = k) (match e with
          | .arr m' e' => some (.agg (Ty.arr m' e').size (r.sub (n.toNat * (Ty.arr m' e').size) (Ty.arr m' e').size))
          | .st _ => none
          | _ => r.get n.toNat)
      | _ => none
    | .s bs => match Γ.ty t with
      | some .s => chk (0 ≤ n ∧ n < bs.length) (some (.u 8 (bs.getD n.toNat 0)))
      | _ => none
    | _ => none
  | .u w m =>
    match x with
    | .s bs => match Γ.ty t with
      | some .s => chk (m.toNat < bs.length) (some (.u 8 (bs.getD m.toNat 0)))
      | _ => none
    | _ => none
  | _ => none

noncomputable def aFieldAddr (Γ : Ctx) (t : Nat) (x : V) (f : Nat) : Option V :=
  match x with
  | .p k 0 0 0 => match Γ.ty t with
    | some (.st ts) => match ts[f]? with
      | some ty => chk (ty.size ≠ 0) (some (.p k (f + 1) (Ty.sizes (ts.take f)) 0))
      | none => none
    | _ => none
  | _ => none

noncomputable def fitF : Ty → V → Bool
  | .arr n e, .agg m _ => n * e.size == m
  | .arr _ _, _ => false
  | .st _, _ => false
  | _, .agg _ _ => false
  | _, _ => true

noncomputable def aField (Γ : Ctx) (t : Nat) (x : V) (f : Nat) : Option V :=
  match x with
  | .st fs => match Γ.ty t with
    | some (.st ts) => match ts[f]? with
      | some ty => match fs[f]? with
        | some v => chk (Ty.sizes (ts.take f) = offs fs f ∧ fitF ty v = true) (some v)
        | none => none
      | none => none
    | _ => none
  | _ => none

noncomputable def isNum : Row → Bool
  | .u _ _ => true
  | .i _ => true
  | _ => false

noncomputable def rdAt (Γ : Ctx) (M : Nat → Option V) (t : Nat) (x : V) : Option V :=
  match Γ.ty t with
  | none => none
  | some ty =>
    match x with
    | .p k f o i => match M k with
      | some c => match subV c f o with
        | some s => rd ty s i
        | none => none
      | none => none
    | .rp r i => match ty with
      | .arr m e => chk (i + m * e.size ≤ r.len ∧ r.esz = 1 ∧ isNum r = true) (some (.agg (m * e.size) (r.sub i (m * e.size))))
      | .st ts => chk (i < r.len ∧ Ty.sizes ts = 3 ∧ r.esz = 3) (r.get i)
      | _ => chk (i < r.len ∧ r.esz = 1) (r.get i)
    | _ => none

/-- what a part of a literal must be: the zero value with the parts written over it -/
noncomputable def putParts (sz : Nat) (z : V) : List (Nat × V) → Option V
  | [] => some z
  | (i, v) :: rest => chk (v.vlen = sz) (match wr z (i * sz) v with
    | some z' => putParts sz z' rest
    | none => none)

noncomputable def lookN : Nat → List (Nat × V) → Option V
  | _, [] => none
  | k, (i, v) :: rest => if i = k then some v else lookN k rest

noncomputable def bits? (w : Nat) : V → Option (BitVec w)
  | .u w' x => if h : w' = w then some (castB h x) else none
  | _ => none
noncomputable def int? : V → Option Int
  | .i n => some n
  | _ => none
noncomputable def str? : V → Option Bytes
  | .s x => some x
  | _ => none
noncomputable def bys? : V → Option Bytes
  | .sl _ (.u 8 x) => some x
  | .nils => some []
  | _ => none

/-- the parts are all the places in order: the list of what they are -/
noncomputable def inOrder (n : Nat) : Nat → List (Nat × V) → Bool
  | k, [] => k == n
  | k, (i, _) :: rest => i == k && inOrder n (k + 1) rest

noncomputable def putFields (ts : List Ty) (fs : List V) : List (Nat × V) → Option V
  | [] => some (.st fs)
  | (i, v) :: rest => match fs[i]? with
    | some w => chk (w.len1 = v.len1 ∧ (match v with | .st _ => false | .tup _ => false | .clo _ _ => false | .row _ => false | .any => false | .ref _ _ _ => false | _ => true) = true) (putFields ts (fs.set i v) rest)
    | none => none

noncomputable def aBuild (Γ : Ctx) (t : Nat) (parts : List (Nat × V)) : Option V :=
  match Γ.ty t with
  | some (.arr n e) => match e with
    | .u w => if inOrder n 0 parts = true then (mapO (fun p => bits? w p.2) parts).map fun xs => .agg n (.u w xs) else (Ty.zero1 (.arr n e)).bind fun z => putParts 1 z parts
    | .i => if inOrder n 0 parts = true then (mapO (fun p => int? p.2) parts).map fun xs => .agg n (.i xs) else (Ty.zero1 (.arr n e)).bind fun z => putParts 1 z parts
    | e => match parts with
      | [] => Ty.zero1 (.arr n e)
      | _ => none
  | some (.st ts) => match Ty.zero (.st ts) with
    | some (.st fs) => putFields ts fs parts
    | _ => none
  | _ => none

noncomputable def aBuildSlice (Γ : Ctx) (t n : Nat) (parts : List (Nat × V)) : Option Row :=
  match Γ.ty t with
  | some (.sl e) => chk (inOrder n 0 parts = true ∧ n ≤ 1000000) (match e with
    | .u w => (mapO (fun p => bits? w p.2) parts).map (.u w)
    | .i => (mapO (fun p => int? p.2) parts).map .i
    | .s => (mapO (fun p => str? p.2) parts).map .s
    | .sl (.u 8) => match parts with
      | [] => some (.b true [])
      | [(_, .sl f (.u 8 x))] => some (.b f [x])
      | ps => (mapO (fun p => bys? p.2) ps).map (.b false)
    | _ => none)
  | _ => none

/-- an empty row of an element type -/
noncomputable def Ty.row0 : Ty → Option Row
  | .u w => some (.u w [])
  | .i => some (.i [])
  | .s => some (.s [])
  | .sl (.u 8) => some (.b true [])
  | _ => none

noncomputable def Ty.rowZ (n : Nat) : Ty → Option Row
  | .u w => some (.u w (zeros w n))
  | .i => some (.i (zeroI n))
  | _ => none

noncomputable def MAXAPP : Nat := 1099511627776

/-- the row that an append's second argument is: n bytes slices of one element are rows of slices -/
noncomputable def rowOf' (M : Nat → Option V) (e : Ty) : V → Option Row
  | .nils => e.row0
  | x => rowOf M x

noncomputable def aAppend (Γ : Ctx) (M : Nat → Option V) (t d : Nat) (x y : V) : Option Res :=
  match Γ.ty t with
  | some (.sl e) => match rowOf' M e y with
    | some q => match x with
      | .nils => match e.row0 with
        | some r0 => match r0.app q with
          | some r => chk ((r.len + r.len / 4 + 192) * e.bsz ≤ 281474976710656 ∧ r.len ≤ LIM) (some { v := .gr d r.len, new := some (.row r), pg := [d] })
          | none => none
        | none => none
      | .gr k len => match M k with
        | some (.row r) => chk (len ≤ r.len ∧ e.row0.isSome = true ∧ k < 1000) (match (r.sub 0 len).app q with
            | some r' => chk ((r'.len + r'.len / 4 + 192) * e.bsz ≤ 281474976710656 ∧ r'.len ≤ LIM) (some { v := .gr k r'.len, upd := [(k, .row r')], pg := [k] })
            | none => none)
        | _ => none
      | .os k f o i len => match M k with
        | some c => match subV c f o with
          | some (.agg n r) => chk (f = 0 ∧ i + len = n ∧ e.row0.isSome = true ∧ 0 < q.len) (match (r.sub i len).app q with
            | some r' => chk ((r'.len + r'.len / 4 + 192) * e.bsz ≤ 281474976710656 ∧ r'.len ≤ LIM) (some { v := .gr d r'.len, new := some (.row r'), pg := [d] })
            | none => none)
          | _ => none
        | none => none
      | _ => none
    | none => none
  | _ => none

noncomputable def aCopy (Γ : Ctx) (M : Nat → Option V) (t : Nat) (x y : V) : Option Res :=
  match Γ.ty t with
  | some (.sl e) => match rowOf M y with
    | some q => match x with
      | .os k f o i len => match M k with
        | some c => match subV c f o with
          | some (.agg n r) => chk (e.size = 1 ∧ i + len ≤ n ∧ len ≤ 1000000) (
              match r.splice i (q.sub 0 (min q.len len)) with
              | some r' => some { v := .i ((min q.len len : Nat) : Int), upd := [(k, putSub c f (.agg n r'))] }
              | none => none)
          | _ => none
        | none => none
      | _ => none
    | none => none
  | _ => none

noncomputable def aMinMax (mx : Bool) (x y : V) : Option V :=
  match x with
  | .i a => match y with
    | .i c => some (.i (if mx = true then (if c > a then c else a) else (if c < a then c else a)))
    | _ => none
  | .u w a => match y with
    | .u w' c => if h : w' = w then some (.u w (if mx = true then (if a < castB h c then castB h c else a) else (if castB h c < a then castB h c else a))) else none
    | _ => none
  | _ => none

noncomputable def aLen (Γ : Ctx) (t : Nat) (x : V) : Option V :=
  match Γ.ty t with
  | some (.sl _) => match x with
    | .sl _ r => some (.i (r.len : Int))
    | .nils => some (.i 0)
    | .gr _ len => chkI (len : Int)
    | .os _ _ _ _ len => chkI (len : Int)
    | _ => none
  | some .s => match x with
    | .s bs => some (.i (bs.length : Int))
    | _ => none
  | some (.arr n _) => chkI (n : Int)
  | _ => none

noncomputable def plain1 : V → Bool
  | .u _ _ => true
  | .i _ => true
  | .b _ => true
  | .s _ => true
  | .agg _ _ => true
  | .nilp => true
  | _ => false

/-- a content that holds no reference -/
noncomputable def plainC : V → Bool
  | .row (.u _ _) => true
  | .row (.i _) => true
  | .row (.s _) => true
  | .st fs => fs.all plain1
  | v => plain1 v

def Row.ro : Row → Row
  | .b _ xs => .b false xs
  | r => r

/-- an argument as the callee gets it -/
noncomputable def inV (refSl : Bool) (M : Nat → Option V) : V → Option V
  | .nils => some (.sl false (.u 8 []))
  | .sl _ r => some (.sl false r.ro)
  | .gr k len => match rowOf M (.gr k len) with
    | some r => chk (r.len ≤ LIM) (some (.sl false r.ro))
    | none => none
  | .os k f o i len => if refSl = true then
      match M k with
      | some c => chk (plainC c = true) (some (.tup [.ref f o c, .i (i : Int), .i (len : Int)]))
      | none => none
    else
    match rowOf M (.os k f o i len) with
    | some r => chk (r.len ≤ LIM) (some (.sl false r.ro))
    | none => none
  | .p k f o i => match M k with
    | some c => chk (i = 0 ∧ plainC c = true) (some (.ref f o c))
    | none => none
  | .rp _ _ => none
  | .tup _ => none
  | .row _ => none
  | .ref _ _ _ => none
  | .any => none
  | .clo g caps => match caps with
    | [] => some (.clo g [])
    | _ => none
  | .st fs => chk (fs.all plain1 = true) (some (.st fs))
  | v => some v

noncomputable def refKey (refSl : Bool) : V → Option Nat
  | .p k _ _ _ => some k
  | .os k _ _ _ _ => if refSl = true then some k else none
  | _ => none
noncomputable def roKey (refSl : Bool) : V → Option Nat
  | .gr k _ => some k
  | .os k _ _ _ _ => if refSl = true then none else some k
  | _ => none

noncomputable def nodupN : List Nat → Bool
  | [] => true
  | a :: as => !as.contains a && nodupN as

/-- may the value have come out of an argument? -/
noncomputable def old1 : V → Bool
  | .sl false _ => true
  | .sl true (.b false _) => true
  | .sl true (.a _) => true
  | _ => false
noncomputable def V.old : V → Bool
  | .tup xs => xs.any old1
  | .st fs => fs.any old1
  | v => old1 v

/-- a result as the caller gets it: a new object lies at key d -/
noncomputable def outV1 (d : Nat) : V → V
  | .ref _ _ _ => .p d 0 0 0
  | v => v
noncomputable def outV (d : Nat) : V → V
  | .tup xs => .tup (xs.map (outV1 d))
  | v => outV1 d v
noncomputable def newOf1 : V → Option V
  | .ref _ _ c => some c
  | _ => none
noncomputable def newOf : V → Option V
  | .tup xs => (xs.filterMap newOf1).head?
  | v => newOf1 v
noncomputable def newCount : V → Nat
  | .tup xs => (xs.filterMap newOf1).length
  | _ => 1

/-- what a function may answer with -/
noncomputable def ret1 : V → Bool
  | .sl _ _ => true
  | .nils => true
  | .ref _ _ c => plainC c
  | v => plain1 v
noncomputable def retOK : V → Bool
  | .tup xs => xs.all ret1
  | .st fs => fs.all fun f => match f with | .sl _ _ => true | .nils => true | f => plain1 f
  | v => ret1 v

noncomputable def aCall (Γ : Ctx) (M : Nat → Option V) (d : Nat) (f : V) (args : List V) : Option Res :=
  match f with
  | .clo g caps => match Γ.fn g with
    | some sp =>
      match mapO (inV sp.refSl M) (args ++ caps) with
      | some ins => match sp.run ins with
        | some (ret, outs) =>
          chk (nodupN ((args ++ caps).filterMap (refKey sp.refSl)) = true ∧ ((args ++ caps).filterMap (refKey sp.refSl)).all (fun k => !((args ++ caps).filterMap (roKey sp.refSl)).contains k) = true ∧
              outs.length = ((args ++ caps).filterMap (refKey sp.refSl)).length ∧ ((args ++ caps).filterMap (roKey sp.refSl) = [] ∨ ret.old = false) ∧ newCount ret ≤ 1 ∧ retOK ret = true ∧ outs.all plainC = true)
            (some { v := outV d ret, upd := ((args ++ caps).filterMap (refKey sp.refSl)).zip outs, new := newOf ret, pg := match newOf ret with | some _ => [d] | none => [] })
        | none => none
      | none => none
    | none => none
  | _ => none

noncomputable def aS2a (n : Nat) (x : V) : Option V :=
  match x with
  | .os k f o i len => chk (n ≤ len) (some (.p k f o i))
  | .gr k len => chk (n ≤ len ∧ 0 < n) (some (.p k 0 0 0))
  | .sl _ r => chk (n ≤ r.len ∧ 0 < n ∧ r.esz = 1) (some (.rp r 0))
  | _ => none

noncomputable def isNilCk : V → Option V
  | .p k f o i => some (.p k f o i)
  | .rp r i => some (.rp r i)
  | _ => none

/-- are all the parts constants? -/
noncomputable def allC : List (Nat × Operand) → Bool
  | [] => true
  | (_, .const _) :: ps => allC ps
  | _ => false
/-- a literal of bytes: it is only read -/
noncomputable def litB (r : Row) (ps : List (Nat × Operand)) : Bool := match r with
  | .u 8 _ => match ps with
    | [] => false
    | ps => allC ps
  | _ => false

/-- a literal's bytes, turned to their own type -/
noncomputable def aSame (Γ : Ctx) (s t : Nat) (x : V) : Option V := match x with
  | .sl true (.u 8 xs) => chk (s = t ∧ 0 < xs.length) (some (.sl true (.u 8 xs)))
  | .s bs => match Γ.ty s with
    | some .s => chk (bs.length ≤ LIM) (some (.sl true (.u 8 bs)))
    | _ => none
  | _ => none

noncomputable def pure1 (v : Option V) : Option Res := v.map fun v => { v := v }

noncomputable def actBuiltin (Γ : Ctx) (M : Nat → Option V) (d : Nat) (b : Builtin) (tys : List Nat) (args : List V) : Option Res :=
  match b with
  | .append => match args with
    | [x, y] => match tys with
      | [t, t'] => chk (t = t') (aAppend Γ M t d x y)
      | _ => none
    | _ => none
  | .copy => match args with
    | [x, y] => match tys with
      | [t, _] => aCopy Γ M t x y
      | _ => none
    | _ => none
  | .len => match args with
    | [x] => match tys with
      | [t] => pure1 (aLen Γ t x)
      | _ => none
    | _ => none
  | .min => match args with
    | [x, y] => pure1 (aMinMax false x y)
    | _ => none
  | .max => match args with
    | [x, y] => pure1 (aMinMax true x y)
    | _ => none
  | _ => none

noncomputable def args1 (args : List V) (f : V → Option Res) : Option Res := match args with | [x] => f x | _ => none
noncomputable def args2 (args : List V) (f : V → V → Option Res) : Option Res := match args with | [x, y] => f x y | _ => none

/-- one operation, on the values of its operands (in the order of 'Op.operands') -/
noncomputable def act (Γ : Ctx) (M : Nat → Option V) (d : Nat) (op : Op) (args : List V) : Option Res :=
  match op with
  | .move _ => args1 args fun x => some { v := x }
  | .assign _ => args1 args fun x => some { v := x }
  | .pick _ _ _ => match args with
    | [.b c, x, y] => some { v := if c = true then x else y }
    | _ => none
  | .alloc t => match Γ.ty t with
    | some ty => match ty.zero with
      | some z => some { v := .p d 0 0 0, new := some z, pg := [d] }
      | none => none
    | none => none
  | .box t _ => args1 args fun x => match x with
    | .row _ => none
    | .tup _ => none
    | .clo _ _ => none
    | .any => none
    | .ref _ _ _ => none
    | x => chk (x.keys.contains d = false) (some { v := .p d 0 0 0, new := some x, pg := [d] })
  | .build t ps => pure1 (aBuild Γ t ((ps.toList.map (·.1)).zip args))
  | .buildSlice t n ps => match aBuildSlice Γ t n ((ps.toList.map (·.1)).zip args) with
    | some r => if litB r ps.toList = true then some { v := .sl true r } else some { v := .gr d r.len, new := some (.row r), pg := [d] }
    | none => none
  | .load t _ => args1 args fun x => pure1 (rdAt Γ M t x)
  | .store t _ _ => args2 args fun p v => match p with
    | .p k f o i => match M k with
      | some c => match subV c f o with
        | some s => match Γ.ty t with
          | some ty => chk (ty.size = v.vlen) (match wr s i v with
            | some s' => some { v := .any, upd := [(k, putSub c f s')] }
            | none => none)
          | none => none
        | none => none
      | none => none
    | _ => none
  | .nilCheck _ => args1 args fun x => pure1 (isNilCk x)
  | .binOp o t _ _ _ => args2 args fun x y => pure1 (aBin Γ o t x y)
  | .unOp o _ _ => args1 args fun x => pure1 (aUn o x)
  | .convert s t _ => args1 args fun x => match Γ.ty t with
    | some (.sl (.u 8)) => pure1 (aSame Γ s t x)
    | _ => pure1 (aConv Γ M s t x)
  | .sliceToArrayPointer t _ => args1 args fun x => match Γ.ty t with
    | some (.arr n (.u _)) => pure1 (aS2a n x)
    | _ => none
  | .makeFunc fn first _ => match fn with
    | .func f => chk (first.size = 0 ∧ args.all V.isFlat = true) (some { v := .clo f args })
    | _ => none
  | .makeSlice t _ _ => match args with
    | [.i n, .i c] => match Γ.ty t with
      | some (.sl e) => match e.rowZ n.toNat with
        | some r => chk (0 ≤ n ∧ (c = n ∨ n = 0 ∧ 0 ≤ c) ∧ c ≤ 1099511627776) (some { v := .gr d n.toNat, new := some (.row r), pg := [d] })
        | none => none
      | _ => none
    | _ => none
  | .slice t _ lo hi mx => match args with
    | x :: rest => match Γ.ty t with
      | some _ => chk ((!mx.isSome || hi.isSome) = true) (pure1 (aSlice Γ M t x (match lo with | some _ => rest[0]? | none => none) (match hi with | some _ => rest[if lo.isSome then 1 else 0]? | none => none)
        (match mx with | some _ => rest[(if lo.isSome then 1 else 0) + (if hi.isSome then 1 else 0)]? | none => none)))
      | none => none
    | [] => none
  | .fieldAddr t _ f => args1 args fun x => pure1 (aFieldAddr Γ t x f)
  | .field t _ f => args1 args fun x => pure1 (aField Γ t x f)
  | .indexAddr t _ _ => args2 args fun x i => pure1 (aIdxAddr Γ t x (normIx i))
  | .index t _ _ => args2 args fun x i => pure1 (aIdx Γ t x i)
  | .extract _ j => args1 args fun x => match x with
    | .tup xs => (xs[j]?).map fun v => { v := v }
    | _ => none
  | .call c => match c.callee with
    | .value _ => match args with
      | f :: rest => aCall Γ M d f rest
      | [] => none
    | .builtin b => actBuiltin Γ M d b c.argTypes.toList args
    | _ => none
  | _ => none

/-! ### states -/

noncomputable def put (d : Nat) (v : V) (e : Nat → Option V) : Nat → Option V := fun t => if t = d then some v else e t
noncomputable def purge (ks : List Nat) (e : Nat → Option V) : Nat → Option V := fun t => match e t with
  | some v => if v.keys.any (ks.contains ·) then none else some v
  | none => none
noncomputable def updM (us : List (Nat × V)) (m : Nat → Option V) : Nat → Option V := fun k => match lookN k us with
  | some v => some v
  | none => m k
noncomputable def restr (ks : List Nat) (m : Nat → Option V) : Nat → Option V := fun k => chk (ks.contains k) (m k)

noncomputable def purgeIf (ks : List Nat) (e : Nat → Option V) : Nat → Option V := match ks with
  | [] => e
  | ks => purge ks e

noncomputable def newM (d : Nat) (new : Option V) (m : Nat → Option V) : Nat → Option V := match new with
  | some c => put d c m
  | none => m

noncomputable def St.after (st : St) (dst : Option Nat) (r : Res) : Option St :=
  match dst with
  | some d => chk (d < st.n) (some { env := put d r.v (purgeIf r.pg st.env), mem := newM d r.new (updM r.upd (purgeIf r.pg st.mem)), n := st.n })
  | none => match r.new with
    | none => chk (r.pg = []) (some { env := purgeIf r.pg st.env, mem := updM r.upd (purgeIf r.pg st.mem), n := st.n })
    | some _ => none

noncomputable def argsOf (Γ : Ctx) (e : Nat → Option V) (op : Op) : Option (List V) := mapO (opnd Γ e) op.operands.toList

noncomputable def runOp (Γ : Ctx) (st : St) (o : Oper) : Option St :=
  match argsOf Γ st.env o.op with
  | some args => match act Γ (restr (args.flatMap V.keys) st.mem) (o.dst.getD 0) o.op args with
    | some r => st.after o.dst r
    | none => none
  | none => none

/-- what the guard says -/
noncomputable def guardB (all : List Oper) (st : St) (j : Nat) (want : Bool) : Option Bool :=
  match all[j]? with
  | some o => match o.dst with
    | some d => match st.env d with
      | some (.b x) => some x
      | some (.tup []) => some (!want)
      | _ => none
    | none => none
  | none => none

noncomputable def skipOp (st : St) (o : Oper) : Option St :=
  match o.dst with
  | some d => some { st with env := put d (.tup []) st.env }
  | none => some st

noncomputable def step (Γ : Ctx) (all : List Oper) (st : St) (o : Oper) : Option St :=
  match o.guard with
  | none => runOp Γ st o
  | some (j, want) => match guardB all st j want with
    | some x => if x = want then runOp Γ st o else chk (∀ d, o.dst = some d → d < st.n) (skipOp st o)
    | none => none

noncomputable def steps (Γ : Ctx) (all : List Oper) (st : St) : List Oper → Option St
  | [] => some st
  | o :: os => match step Γ all st o with
    | some st' => steps Γ all st' os
    | none => none

end Go.Vm

/- What stands when the world or the objects turn. -/
namespace Go.Vm
open Go
set_option linter.unusedVariables false

structure Mono (c c' : Cx) (w w' : World) : Prop where
  base : c'.base = c.base
  N : ∀ b, b < w.heap.size → ¬ c.N b → ¬ c'.N b
  ro : ∀ b, b < w.heap.size → ¬ c.N b → ∀ (o : Nat) (v : Value), w.cell? ⟨b, o, none⟩ = some v → w'.cell? ⟨b, o, none⟩ = some v
  shape : ∀ (b : Nat) (cur : Array Value) (e : TypeId) (fr : Nat × Nat), w.heap[b]? = some (Obj.cells cur e fr) → ∃ (cur1 : Array Value) (fr1 : Nat × Nat), w'.heap[b]? = some (Obj.cells cur1 e fr1) ∧ cur1.size = cur.size

theorem same_cells {w w' : World} {b : Nat} (h : w'.heap[b]? = w.heap[b]?) (o : Nat) (v : Value) (hc : w.cell? ⟨b, o, none⟩ = some v) : w'.cell? ⟨b, o, none⟩ = some v := by
  rw [World.cell?_of_block (w := w) (a := ⟨b, o, none⟩) h]; exact hc

theorem Mono.frN {c c' : Cx} {w w' : World} (h : Mono c c' w w') (f : Bool) (b : Nat) (hb : b < w.heap.size) (hn : ¬ c.fr f b) : ¬ c'.fr f b := by
  cases f with
  | false => exact h.N b hb hn
  | true =>
    simp only [Cx.fr, if_true] at hn ⊢
    rw [h.base]
    intro hc
    rcases hc with hc | hc
    · exact h.N b hb (fun x => hn (.inl x)) hc
    · exact hn (.inr hc)

theorem fr_N {c : Cx} (f : Bool) {b : Nat} (h : ¬ c.fr f b) : ¬ c.N b := by
  cases f with
  | false => exact h
  | true => exact fun x => h (by simp [Cx.fr, x])

theorem lt_of_cell {w : World} {b o : Nat} {v : Value} (h : w.cell? ⟨b, o, none⟩ = some v) : b < w.heap.size := World.block_lt_of_cell? w ⟨b, o, none⟩ h

theorem roCell_mono {c c' : Cx} {w w' : World} (h : Mono c c' w w') {f : Bool} {blk o : Nat} {v : Value} (hc : roCell w (c.fr f) blk o v) : roCell w' (c'.fr f) blk o v := by
  have hb := lt_of_cell hc.2
  refine ⟨h.frN f blk hb hc.1, ?_⟩
  exact h.ro blk hb (fr_N f hc.1) o v hc.2

theorem slB_mono {c c' : Cx} {w w' : World} (h : Mono c c' w w') {f : Bool} {v : Value} {x : Bytes} (hc : slB w (c.fr f) v x) : slB w' (c'.fr f) v x := by
  obtain ⟨a, len, cap, hv, hl, hcap, hlim, hr⟩ := hc
  refine ⟨a, len, cap, hv, hl, hcap, hlim, ?_⟩
  rcases hr with hr | ⟨blk, off, ha, hr⟩
  · exact .inl hr
  · exact .inr ⟨blk, off, ha, fun j y hy => roCell_mono h (hr j y hy)⟩

theorem rowAt_mono {c c' : Cx} {w w' : World} (h : Mono c c' w w') {f : Bool} {blk off : Nat} {r : Row} (hr : rowAt w c f blk off r) : rowAt w' c' f blk off r := by
  cases r with
  | u wd xs => exact ⟨hr.1, fun j x hx => roCell_mono h (hr.2 j x hx)⟩
  | i xs => exact fun j x hx => ⟨roCell_mono h (hr j x hx).1, (hr j x hx).2⟩
  | s xs => exact fun j x hx => let ⟨s, h1, h2⟩ := hr j x hx; ⟨s, roCell_mono h h1, h2⟩
  | b g xs => exact fun j x hx => let ⟨v, h1, h2⟩ := hr j x hx; ⟨v, roCell_mono h h1, slB_mono h h2⟩
  | a xs => exact fun j x hx => let ⟨h1, h2, h3, h4, v, h5, h6⟩ := hr j x hx; ⟨roCell_mono h h1, h2, roCell_mono h h3, h4, v, roCell_mono h h5, slB_mono h h6⟩

theorem slR_mono {c c' : Cx} {w w' : World} (h : Mono c c' w w') {f : Bool} {v : Value} {r : Row} (hr : slR w c f v r) : slR w' c' f v r := by
  obtain ⟨a, len, cap, hv, hl, hcap, hlim, hok, hr⟩ := hr
  refine ⟨a, len, cap, hv, hl, hcap, hlim, hok, ?_⟩
  rcases hr with hr | ⟨blk, off, ha, hr⟩
  · exact .inl hr
  · exact .inr ⟨blk, off, ha, rowAt_mono h hr⟩

theorem FRel_mono {c c' : Cx} {w w' : World} (h : Mono c c' w w') {v : V} {cs : List Value} (hk : ∀ k ∈ v.keys1, c'.φ k = c.φ k) (hr : FRel c w v cs) : FRel c' w' v cs := by
  cases v with
  | u wd x => exact hr
  | i n => exact hr
  | b x => exact hr
  | s bs => exact hr
  | agg n r => cases r <;> exact hr
  | sl fr r => obtain ⟨v, hv, hs⟩ := hr; exact ⟨v, hv, slR_mono h hs⟩
  | nils => exact hr
  | rp r i => obtain ⟨blk, off, hv, hs⟩ := hr; exact ⟨blk, off, hv, rowAt_mono h hs⟩
  | p k f o i => obtain ⟨b, hb, hv⟩ := hr; exact ⟨b, (hk k (by simp [V.keys1])).trans hb, hv⟩
  | nilp => exact hr
  | os k f o i len =>
    obtain ⟨b, cap, hb, hv, hl, cur, e, fr, hh, hcap⟩ := hr
    obtain ⟨cur', fr', h1, h2⟩ := h.shape b cur e fr hh
    exact ⟨b, cap, (hk k (by simp [V.keys1])).trans hb, hv, hl, cur', e, fr', h1, by omega⟩
  | gr k len =>
    obtain ⟨a, cap, hv, hl, hr⟩ := hr
    refine ⟨a, cap, hv, hl, ?_⟩
    rcases hr with hr | ⟨b, cur, e, fr, hb, ha, hh, hcap⟩
    · exact .inl hr
    · obtain ⟨cur', fr', h1, h2⟩ := h.shape b cur e fr hh
      exact .inr ⟨b, cur', e, fr', (hk k (by simp [V.keys1])).trans hb, ha, h1, by omega⟩
  | row r => exact hr.elim
  | st fs => exact hr.elim
  | tup xs => exact hr.elim
  | clo g caps => exact hr.elim
  | ref f o x => exact hr.elim
  | any => exact hr.elim

theorem All2.mono_mem {α β : Type} {R S : α → β → Prop} : ∀ {as : List α} {bs : List β}, (∀ a ∈ as, ∀ b, R a b → S a b) → All2 R as bs → All2 S as bs
  | [], [], _, _ => trivial
  | _ :: _, _ :: _, hRS, h => ⟨hRS _ (by simp) _ h.1, All2.mono_mem (fun a ha b => hRS a (by simp [ha]) b) h.2⟩
  | [], _ :: _, _, h => h.elim
  | _ :: _, [], _, h => h.elim

theorem VRel_mono {c c' : Cx} {w w' : World} (h : Mono c c' w w') {v : V} {u : Value} (hk : ∀ k ∈ v.keys, c'.φ k = c.φ k) (hr : VRel c w v u) : VRel c' w' v u := by
  cases v with
  | agg n r => obtain ⟨cs, hv, hs⟩ := hr; exact ⟨cs, hv, FRel_mono (v := .agg n r) h hk hs⟩
  | st fs =>
    obtain ⟨cs, css, hv, hs, ha⟩ := hr
    exact ⟨cs, css, hv, hs, All2.mono_mem (fun x hx b hb => FRel_mono h (fun k hkk => hk k (List.mem_flatMap.2 ⟨x, hx, hkk⟩)) hb) ha⟩
  | tup xs =>
    obtain ⟨vs, hv, ha⟩ := hr
    refine ⟨vs, hv, All2.mono_mem (fun x hx b hb => ?_) ha⟩
    have hkx : ∀ k ∈ x.keys1, c'.φ k = c.φ k := fun k hkk => hk k (List.mem_flatMap.2 ⟨x, hx, hkk⟩)
    rcases hb with ⟨n, r, cs, rfl, h2, h3⟩ | ⟨h1, h2⟩
    · exact .inl ⟨n, r, cs, rfl, h2, FRel_mono h hkx h3⟩
    · exact .inr ⟨h1, FRel_mono h hkx h2⟩
  | clo g caps =>
    obtain ⟨vs, hv, ha⟩ := hr
    refine ⟨vs, hv, All2.mono_mem (fun x hx b hb => ?_) ha⟩
    exact ⟨hb.1, FRel_mono h (fun k hkk => hk k (List.mem_flatMap.2 ⟨x, hx, hkk⟩)) hb.2⟩
  | any => trivial
  | u wd x => exact FRel_mono (v := .u wd x) h hk hr
  | i n => exact FRel_mono (v := .i n) h hk hr
  | b x => exact FRel_mono (v := .b x) h hk hr
  | s bs => exact FRel_mono (v := .s bs) h hk hr
  | sl fr r => exact FRel_mono (v := .sl fr r) h hk hr
  | nils => exact FRel_mono (v := .nils) h hk hr
  | rp r i => exact FRel_mono (v := .rp r i) h hk hr
  | p k f o i => exact FRel_mono (v := .p k f o i) h hk hr
  | nilp => exact FRel_mono (v := .nilp) h hk hr
  | os k f o i len => exact FRel_mono (v := .os k f o i len) h hk hr
  | gr k len => exact FRel_mono (v := .gr k len) h hk hr
  | row r => exact hr.elim
  | ref f o x => exact hr.elim

theorem rowVals_mono {c c' : Cx} {w w' : World} (h : Mono c c' w w') {cs : List Value} {r : Row} (hr : rowVals c w r cs) : rowVals c' w' r cs := by
  cases r with
  | u wd xs => exact hr
  | i xs => exact hr
  | s xs => exact hr
  | b g xs => exact All2.mono (fun _ _ hh => slB_mono h hh) hr
  | a xs => exact hr

theorem rowIn_mono {c c' : Cx} {w w' : World} (h : Mono c c' w w') {cs : List Value} {r : Row} (hr : rowIn c w cs r) : rowIn c' w' cs r := by
  obtain ⟨vs, spare, h1, h2⟩ := hr
  exact ⟨vs, spare, h1, rowVals_mono h h2⟩

theorem CRel_mono {c c' : Cx} {w w' : World} (h : Mono c c' w w') {cs : List Value} {x : V} (hk : ∀ k ∈ x.keys, c'.φ k = c.φ k) (hr : CRel c w cs x) : CRel c' w' cs x := by
  cases x with
  | row r => exact rowIn_mono h hr
  | st fs =>
    obtain ⟨css, h1, h2⟩ := hr
    exact ⟨css, h1, All2.mono_mem (fun x hx b hb => FRel_mono h (fun k hkk => hk k (List.mem_flatMap.2 ⟨x, hx, hkk⟩)) hb) h2⟩
  | agg n r => exact FRel_mono (v := .agg n r) h hk hr
  | any => exact hr.elim
  | u wd x => exact FRel_mono (v := .u wd x) h hk hr
  | i n => exact FRel_mono (v := .i n) h hk hr
  | b x => exact FRel_mono (v := .b x) h hk hr
  | s bs => exact FRel_mono (v := .s bs) h hk hr
  | sl fr r => exact FRel_mono (v := .sl fr r) h hk hr
  | nils => exact FRel_mono (v := .nils) h hk hr
  | rp r i => exact FRel_mono (v := .rp r i) h hk hr
  | p k f o i => exact FRel_mono (v := .p k f o i) h hk hr
  | nilp => exact FRel_mono (v := .nilp) h hk hr
  | os k f o i len => exact FRel_mono (v := .os k f o i len) h hk hr
  | gr k len => exact FRel_mono (v := .gr k len) h hk hr
  | tup xs => exact hr.elim
  | clo g caps => exact hr.elim
  | ref f o x => exact hr.elim

/-! ### states -/

theorem mem_keys_any {ks : List Nat} {v : V} (h : (v.keys.any (ks.contains ·)) = false) : ∀ k ∈ v.keys, k ∉ ks := by
  intro k hk hc
  rw [List.any_eq_false] at h
  exact h k hk (by simpa using hc)

theorem purge_some {ks : List Nat} {e : Nat → Option V} {t : Nat} {v : V} (h : purge ks e t = some v) : e t = some v ∧ ∀ k ∈ v.keys, k ∉ ks := by
  unfold purge at h
  cases he : e t with
  | none => rw [he] at h; cases h
  | some u =>
    rw [he] at h
    by_cases hc : (u.keys.any (ks.contains ·)) = true
    · simp only [hc, if_true] at h; cases h
    · simp only [hc] at h
      simp at h
      subst h
      exact ⟨rfl, mem_keys_any (by simpa using hc)⟩

theorem purgeIf_some {ks : List Nat} {e : Nat → Option V} {t : Nat} {v : V} (h : purgeIf ks e t = some v) : e t = some v ∧ ∀ k ∈ v.keys, k ∉ ks := by
  cases ks with
  | nil => exact ⟨h, fun k _ hk => by cases hk⟩
  | cons a as => exact purge_some h

/-- a state that knows less -/
structure St.Le (s t : St) : Prop where
  n : s.n = t.n
  env : ∀ k v, s.env k = some v → t.env k = some v
  mem : ∀ k v, s.mem k = some v → t.mem k = some v

variable {gl : Nat → Option Row} {w0 : World} {ext : Nat → Nat → Prop} {av : Nat → Prop} {φ : Nat → Option Nat} {st : St} {a : Act} {w : World}

theorem shape_trans {w w1 w2 : World}
    (h : ∀ (b : Nat) (cur : Array Value) (e : TypeId) (fr : Nat × Nat), w.heap[b]? = some (Obj.cells cur e fr) → ∃ (cur1 : Array Value) (fr1 : Nat × Nat), w1.heap[b]? = some (Obj.cells cur1 e fr1) ∧ cur1.size = cur.size)
    (k : ∀ (b : Nat) (cur : Array Value) (e : TypeId) (fr : Nat × Nat), w1.heap[b]? = some (Obj.cells cur e fr) → ∃ (cur1 : Array Value) (fr1 : Nat × Nat), w2.heap[b]? = some (Obj.cells cur1 e fr1) ∧ cur1.size = cur.size) :
    ∀ (b : Nat) (cur : Array Value) (e : TypeId) (fr : Nat × Nat), w.heap[b]? = some (Obj.cells cur e fr) → ∃ (cur1 : Array Value) (fr1 : Nat × Nat), w2.heap[b]? = some (Obj.cells cur1 e fr1) ∧ cur1.size = cur.size := by
  intro b cur e fr hb
  obtain ⟨c1, f1, h1, h2⟩ := h b cur e fr hb
  obtain ⟨c2, f2, h3, h4⟩ := k b c1 e f1 h1
  exact ⟨c2, f2, h3, h4.trans h2⟩

theorem Keep.refl (ext : Nat → Prop) (w : World) : Keep ext w w := ⟨rfl, rfl, rfl, Nat.le_refl _, fun _ _ _ => rfl, fun _ cur _ fr h => ⟨cur, fr, h, rfl⟩⟩

theorem Keep.trans {ext : Nat → Prop} {w w1 w2 : World} (h : Keep ext w w1) (k : Keep ext w1 w2) : Keep ext w w2 :=
  ⟨k.os.trans h.os, k.tape.trans h.tape, k.output.trans h.output, Nat.le_trans h.size k.size, fun i hi he => (k.block i (Nat.lt_of_lt_of_le hi h.size) he).trans (h.block i hi he), shape_trans h.shape k.shape⟩

/-- Keep over a step that turns other blocks alone: those from the call's begin on, or those handed in -/
theorem Keep.step {ext ext' : Nat → Prop} {w w1 w2 : World} (h : Keep ext w w1) (k : Keep ext' w1 w2) (he : ∀ b, b < w.heap.size → ext' b → ext b) : Keep ext w w2 :=
  ⟨k.os.trans h.os, k.tape.trans h.tape, k.output.trans h.output, Nat.le_trans h.size k.size,
    fun i hi hn => (k.block i (Nat.lt_of_lt_of_le hi h.size) (fun hx => hn (he i hi hx))).trans (h.block i hi hn), shape_trans h.shape k.shape⟩

theorem Mono.of_le {c c' : Cx} {w w' : World} (hb : c'.base = c.base) (hN : ∀ b, c'.N b → c.N b) (hh : ∀ b : Nat, w'.heap[b]? = w.heap[b]?) : Mono c c' w w' :=
  ⟨hb, fun b _ hn hc => hn (hN b hc), fun b _ _ => same_cells (hh b), fun b cur e fr h => ⟨cur, fr, (hh b).trans h, rfl⟩⟩

/-- forgetting -/
theorem Rel.weaken {s : St} (h : Rel gl w0 ext av φ st a w) (hle : s.Le st) : Rel gl w0 ext av φ s a w := by
  have hm : Mono (cxOf φ st.mem av w0.heap.size) (cxOf φ s.mem av w0.heap.size) w w :=
    Mono.of_le rfl (fun b hb => hb.imp (fun ⟨k, x, hk, hb⟩ => ⟨k, x, hle.mem k x hk, hb⟩) id) (fun _ => rfl)
  refine ⟨by rw [hle.n]; exact h.size, h.defers, fun t v ht => VRel_mono hm (fun _ _ => rfl) (h.env t v (hle.env t v ht)), fun k x hk => ?_, fun k k' x x' b hk hk' => h.inj k k' x x' b (hle.mem k x hk) (hle.mem k' x' hk'),
    fun k x b hk => h.own k x b (hle.mem k x hk), by rw [hle.n]; exact h.few, h.extav, h.avb, fun g r hg => rowAt_mono hm (h.glob g r hg), h.keep⟩
  rcases h.mem k x (hle.mem k x hk) with ⟨b, cur, e, h1, h2, h3⟩ | ⟨h1, h0, r, rfl, h2, h3⟩
  · exact .inl ⟨b, cur, e, h1, h2, CRel_mono hm (fun _ _ => rfl) h3⟩
  · exact .inr ⟨h1, h0, r, rfl, h2, CRel_mono hm (fun _ _ => rfl) h3⟩

/-- a draw turns nothing that is told -/
theorem Rel.drawn (h : Rel gl w0 ext av φ st a w) (n : Nat) : Rel gl w0 ext av φ st a { w with drawn := n } := by
  have hm : Mono (cxOf φ st.mem av w0.heap.size) (cxOf φ st.mem av w0.heap.size) w { w with drawn := n } := Mono.of_le rfl (fun _ h => h) (fun _ => rfl)
  refine ⟨h.size, h.defers, fun t v ht => VRel_mono hm (fun _ _ => rfl) (h.env t v ht), fun k x hk => ?_, h.inj, h.own, h.few, h.extav, h.avb, fun g r hg => rowAt_mono hm (h.glob g r hg), ?_⟩
  · rcases h.mem k x hk with ⟨b, cur, e, h1, h2, h3⟩ | ⟨h1, h0, r, rfl, h2, h3⟩
    · exact .inl ⟨b, cur, e, h1, h2, CRel_mono hm (fun _ _ => rfl) h3⟩
    · exact .inr ⟨h1, h0, r, rfl, h2, CRel_mono hm (fun _ _ => rfl) h3⟩
  · exact ⟨h.keep.os, h.keep.tape, h.keep.output, h.keep.size, h.keep.block, h.keep.shape⟩

theorem getD_put (a : Act) (d t : Nat) (v : Value) (hd : d < a.tmps.size) : (a.put (some d) v).tmps.getD t undef = if t = d then v else a.tmps.getD t undef := by
  simp only [Act.put, Array.getD_eq_getD_getElem?, Array.getElem?_setIfInBounds]
  by_cases h : d = t
  · subst h; simp [hd]
  · have h' : t ≠ d := fun e => h e.symm
    simp [h, h']

/-- a temporary is set -/
theorem Rel.putE (h : Rel gl w0 ext av φ st a w) {d : Nat} {v : V} {u : Value} (hd : d < st.n) (hv : VRel (cxOf φ st.mem av w0.heap.size) w v u) :
    Rel gl w0 ext av φ { st with env := put d v st.env } (a.put (some d) u) w := by
  refine ⟨?_, h.defers, fun t x ht => ?_, h.mem, h.inj, h.own, h.few, h.extav, h.avb, h.glob, h.keep⟩
  · simpa [Act.put] using h.size
  · rw [getD_put a d t u (by rw [h.size]; exact hd)]
    simp only [put] at ht
    by_cases e : t = d
    · rw [if_pos e] at ht ⊢
      cases ht
      exact hv
    · rw [if_neg e] at ht ⊢
      exact h.env t x ht

theorem Rel.putNone (h : Rel gl w0 ext av φ st a w) (u : Value) : Rel gl w0 ext av φ st (a.put none u) w := h

end Go.Vm

/- How a state goes on behind an operation. -/
namespace Go.Vm
open Go
set_option linter.unusedVariables false

variable {gl : Nat → Option Row} {w0 : World} {ext : Nat → Nat → Prop} {av : Nat → Prop} {φ φ' : Nat → Option Nat} {st st' : St} {a : Act} {w w' : World}

theorem alloc_old (w : World) (o : Obj) (i : Nat) (h : i < w.heap.size) : (w.alloc o).heap[i]? = w.heap[i]? := by
  show (w.heap.push o)[i]? = w.heap[i]?
  rw [Array.getElem?_push, if_neg (Nat.ne_of_lt h)]

theorem put_same (d : Nat) (v : V) (e : Nat → Option V) : put d v e d = some v := by simp [put]
theorem put_other {d t : Nat} (v : V) (e : Nat → Option V) (h : t ≠ d) : put d v e t = e t := by simp [put, h]

/-- the new object of a step lies at key d -/
def isNew (dst : Option Nat) (r : Res) (k : Nat) : Prop := r.new.isSome = true ∧ dst = some k

theorem after_mem {dst : Option Nat} {r : Res} (hs : st.after dst r = some st') (k : Nat) (x : V) (hk : st'.mem k = some x) :
    (isNew dst r k ∧ r.new = some x) ∨ (¬ isNew dst r k ∧ lookN k r.upd = some x) ∨ (¬ isNew dst r k ∧ lookN k r.upd = none ∧ st.mem k = some x ∧ ∀ j ∈ x.keys, j ∉ r.pg) := by
  have key : ∀ m : Nat → Option V, (∀ x, m k = some x → st.mem k = some x ∧ ∀ j ∈ x.keys, j ∉ r.pg) → ¬ isNew dst r k → updM r.upd m k = some x →
      (isNew dst r k ∧ r.new = some x) ∨ (¬ isNew dst r k ∧ lookN k r.upd = some x) ∨ (¬ isNew dst r k ∧ lookN k r.upd = none ∧ st.mem k = some x ∧ ∀ j ∈ x.keys, j ∉ r.pg) := by
    intro m hm hn hu
    unfold updM at hu
    cases hl : lookN k r.upd with
    | some v => rw [hl] at hu; cases hu; exact .inr (.inl ⟨hn, rfl⟩)
    | none => rw [hl] at hu; exact .inr (.inr ⟨hn, rfl, hm x hu⟩)
  unfold St.after at hs
  cases dst with
  | none =>
    cases hn : r.new with
    | some c => rw [hn] at hs; cases hs
    | none =>
      rw [hn] at hs
      have hs := (chk_some hs).2
      cases hs
      exact key _ (fun x hx => purgeIf_some hx) (fun h => by simp [isNew, hn] at h) hk |>.imp (fun ⟨h, e⟩ => by simp [isNew] at h) id
  | some d =>
    dsimp only at hs
    have hs := (chk_some hs).2
    cases hs
    cases hn : r.new with
    | none =>
      simp only [newM, hn] at hk
      have := key _ (fun x hx => purgeIf_some hx) (fun h => by simp [isNew, hn] at h) hk
      rwa [hn] at this
    | some c =>
      simp only [newM, hn] at hk
      by_cases hkd : k = d
      · subst hkd
        rw [put_same] at hk
        cases hk
        exact .inl ⟨⟨by simp [hn], rfl⟩, rfl⟩
      · rw [put_other c _ hkd] at hk
        have := key _ (fun x hx => purgeIf_some hx) (fun h => hkd (by have := h.2; simp at this; exact this.symm)) hk
        rwa [hn] at this

theorem after_n {dst : Option Nat} {r : Res} (hs : st.after dst r = some st') : st'.n = st.n := by
  unfold St.after at hs
  cases dst with
  | none =>
    cases hn : r.new with
    | some c => rw [hn] at hs; cases hs
    | none => rw [hn] at hs; have hs := (chk_some hs).2; cases hs; rfl
  | some d => dsimp only at hs; have hs := (chk_some hs).2; cases hs; rfl

theorem after_lt {d : Nat} {r : Res} (hs : st.after (some d) r = some st') : d < st.n := by
  unfold St.after at hs; exact (chk_some hs).1

theorem after_env {dst : Option Nat} {r : Res} (hs : st.after dst r = some st') (t : Nat) (x : V) (ht : st'.env t = some x) :
    (dst = some t ∧ x = r.v) ∨ (dst ≠ some t ∧ st.env t = some x ∧ ∀ j ∈ x.keys, j ∉ r.pg) := by
  unfold St.after at hs
  cases dst with
  | none =>
    cases hn : r.new with
    | some c => rw [hn] at hs; cases hs
    | none => rw [hn] at hs; have hs := (chk_some hs).2; cases hs; exact .inr ⟨by simp, purgeIf_some ht⟩
  | some d =>
    dsimp only at hs
    have hs := (chk_some hs).2
    cases hs
    by_cases htd : t = d
    · subst htd
      simp only [put_same] at ht
      cases ht
      exact .inl ⟨rfl, rfl⟩
    · simp only [put_other r.v _ htd] at ht
      exact .inr ⟨fun e => htd (by simp at e; exact e.symm), purgeIf_some ht⟩

theorem Rel.after_gen {dst : Option Nat} {r : Res} {u : Value} (h : Rel gl w0 ext av φ st a w) (hs : st.after dst r = some st')
    (hpg : ∀ k ∈ r.pg, (∃ x, lookN k r.upd = some x) ∨ isNew dst r k)
    (hφ : ∀ k, k ∉ r.pg → φ' k = φ k)
    (hm : Mono (cxOf φ st.mem av w0.heap.size) (cxOf φ' st'.mem av w0.heap.size) w w')
    (hsame : ∀ k x b, st.mem k = some x → lookN k r.upd = none → ¬ isNew dst r k → φ k = some b → w'.heap[b]? = w.heap[b]?)
    (hupd : ∀ k x, lookN k r.upd = some x → ¬ isNew dst r k → ORel (cxOf φ' st'.mem av w0.heap.size) w' k x)
    (hnew : ∀ k x, r.new = some x → dst = some k → ORel (cxOf φ' st'.mem av w0.heap.size) w' k x)
    (hinj : ∀ k k' x x' b, st'.mem k = some x → st'.mem k' = some x' → φ' k = some b → φ' k' = some b → k = k')
    (hown : ∀ k x b, st'.mem k = some x → φ' k = some b → (w0.heap.size ≤ b ∧ k < 1000) ∨ (ext k b ∧ 1000 ≤ k))
    (hv : dst.isSome = true → VRel (cxOf φ' st'.mem av w0.heap.size) w' r.v u)
    (hkeep : Keep (exB ext) w0 w') : Rel gl w0 ext av φ' st' (a.put dst u) w' := by
  refine ⟨?_, ?_, fun t x ht => ?_, fun k x hk => ?_, hinj, hown, by rw [after_n hs]; exact h.few, h.extav, h.avb, fun g r hg => rowAt_mono hm (h.glob g r hg), hkeep⟩
  · rw [after_n hs, ← h.size]; cases dst <;> simp [Act.put]
  · rw [← h.defers]; cases dst <;> rfl
  · have hval : (a.put dst u).tmps.getD t undef = if dst = some t then u else a.tmps.getD t undef := by
      cases dst with
      | none => simp [Act.put]
      | some d =>
        rw [getD_put a d t u (by rw [h.size]; exact after_lt hs)]
        by_cases e : t = d
        · simp [e]
        · have : d ≠ t := fun x => e x.symm
          simp [e, this]
    rw [hval]
    rcases after_env hs t x ht with ⟨rfl, rfl⟩ | ⟨hne, he, hkx⟩
    · simp only [if_true]
      exact hv rfl
    · rw [if_neg hne]
      exact VRel_mono hm (fun k hk => hφ k (hkx k hk)) (h.env t x he)
  · rcases after_mem hs k x hk with ⟨hn, hx⟩ | ⟨hn, hx⟩ | ⟨hn, hl, hx, hkx⟩
    · exact hnew k x hx hn.2
    · exact hupd k x hx hn
    · have hkpg : k ∉ r.pg := fun hc => by
        rcases hpg k hc with ⟨y, hy⟩ | hy
        · rw [hl] at hy; cases hy
        · exact hn hy
      rcases h.mem k x hx with ⟨b, cur, e, h1, h2, h3⟩ | ⟨h1, h0, r, rfl, h2, h3⟩
      · exact .inl ⟨b, cur, e, (hφ k hkpg).trans h1, (hsame k x b hx hl hn h1).trans h2, CRel_mono hm (fun j hj => hφ j (hkx j hj)) h3⟩
      · exact .inr ⟨(hφ k hkpg).trans h1, h0, r, rfl, h2, CRel_mono hm (fun j hj => hφ j (hkx j hj)) h3⟩

/-- the world goes on, and nothing told turns -/
theorem Rel.world (h : Rel gl w0 ext av φ st a w) (hm : Mono (cxOf φ st.mem av w0.heap.size) (cxOf φ st.mem av w0.heap.size) w w')
    (hsame : ∀ k x b, st.mem k = some x → φ k = some b → w'.heap[b]? = w.heap[b]?) (hkeep : Keep (exB ext) w0 w') : Rel gl w0 ext av φ st a w' := by
  refine ⟨h.size, h.defers, fun t x ht => VRel_mono hm (fun _ _ => rfl) (h.env t x ht), fun k x hk => ?_, h.inj, h.own, h.few, h.extav, h.avb, fun g r hg => rowAt_mono hm (h.glob g r hg), hkeep⟩
  rcases h.mem k x hk with ⟨b, cur, e, h1, h2, h3⟩ | ⟨h1, h0, r, rfl, h2, h3⟩
  · exact .inl ⟨b, cur, e, h1, (hsame k x b hk h1).trans h2, CRel_mono hm (fun _ _ => rfl) h3⟩
  · exact .inr ⟨h1, h0, r, rfl, h2, CRel_mono hm (fun _ _ => rfl) h3⟩

/-- an operation that only reckons -/
theorem Rel.after_pure {dst : Option Nat} {v : V} {u : Value} (h : Rel gl w0 ext av φ st a w) (hs : st.after dst { v := v } = some st')
    (hv : VRel (cxOf φ st.mem av w0.heap.size) w v u) : Rel gl w0 ext av φ st' (a.put dst u) w := by
  have hmem : st'.mem = st.mem := by
    unfold St.after at hs
    cases dst with
    | none => have hs := (chk_some hs).2; cases hs; rfl
    | some d => dsimp only at hs; have hs := (chk_some hs).2; cases hs; rfl
  refine h.after_gen hs (fun k hk => by cases hk) (fun _ _ => rfl) ?_ (fun _ _ _ _ _ _ _ => rfl) (fun k x hx => by simp [lookN] at hx) (fun k x hx => by cases hx) ?_ ?_ (fun _ => ?_) h.keep
  · rw [hmem]; exact Mono.of_le rfl (fun _ h => h) (fun _ => rfl)
  · rw [hmem]; exact h.inj
  · rw [hmem]; exact h.own
  · rw [hmem]; exact hv

theorem own_lt (h : Rel gl w0 ext av φ st a w) {k : Nat} {x : V} {b : Nat} (hk : st.mem k = some x) (hb : φ k = some b) : b < w.heap.size := by
  rcases h.mem k x hk with ⟨b', cur, e, h1, h2, _⟩ | ⟨h1, _⟩
  · have : b' = b := by have := h1.symm.trans hb; simpa using this
    subst this
    exact (Array.getElem?_eq_some_iff.1 h2).1
  · have := h1.symm.trans hb; cases this

theorem N_lt (h : Rel gl w0 ext av φ st a w) {b : Nat} (hb : (cxOf φ st.mem av w0.heap.size).N b) : b < w.heap.size := by
  rcases hb with ⟨k, x, hk, hb⟩ | hb
  · exact own_lt h hk hb
  · exact Nat.lt_of_lt_of_le (h.avb b hb) h.keep.size

/-- a new block that nobody writes -/
theorem Rel.grown (h : Rel gl w0 ext av φ st a w) (o : Obj) : Rel gl w0 ext av φ st a (w.alloc o) := by
  have hlt := h.keep.size
  refine h.world ⟨rfl, fun _ _ hn => hn, fun b hb _ => same_cells (alloc_old w _ b hb), fun b cur e' fr hh => ⟨cur, fr, ?_, rfl⟩⟩ (fun k x b hk hb => alloc_old w _ b (own_lt h hk hb)) ?_
  · rw [alloc_old w _ b (Array.getElem?_eq_some_iff.1 hh).1]; exact hh
  · refine h.keep.trans ⟨rfl, rfl, rfl, by show w.heap.size ≤ (w.heap.push o).size; rw [Array.size_push]; exact Nat.le_succ _, fun k hk _ => alloc_old w _ k hk, fun b cur e' fr hh => ⟨cur, fr, ?_, rfl⟩⟩
    rw [alloc_old w _ b (Array.getElem?_eq_some_iff.1 hh).1]; exact hh

/-- a block of nobody's is marked -/
theorem Rel.marked (h : Rel gl w0 ext av φ st a w) {b : Nat} (hN : ¬ (cxOf φ st.mem av w0.heap.size).N b) (hb : w0.heap.size ≤ b) (o n : Nat) : Rel gl w0 ext av φ st a (w.freeze ⟨b, o, none⟩ n) ∧ Mono (cxOf φ st.mem av w0.heap.size) (cxOf φ st.mem av w0.heap.size) w (w.freeze ⟨b, o, none⟩ n) := by
  have hne : ∀ j, j ≠ b → (w.freeze ⟨b, o, none⟩ n).heap[j]? = w.heap[j]? := by
    intro j hj
    unfold World.freeze
    split
    · rfl
    · simp only [Array.getElem?_modify]
      rw [if_neg (fun e => hj e.symm)]
  have hself : ∀ cur e fr, w.heap[b]? = some (Obj.cells cur e fr) → ∃ fr1, (w.freeze ⟨b, o, none⟩ n).heap[b]? = some (.cells cur e fr1) := by
    intro cur e fr hh
    unfold World.freeze
    split
    · exact ⟨fr, hh⟩
    · obtain ⟨lo, hi⟩ := fr
      simp only [Array.getElem?_modify, if_true, hh, Option.map_some]
      exact ⟨_, rfl⟩
  have hshape : ∀ (j : Nat) (cur : Array Value) (e : TypeId) (fr : Nat × Nat), w.heap[j]? = some (Obj.cells cur e fr) → ∃ (cur1 : Array Value) (fr1 : Nat × Nat), (w.freeze ⟨b, o, none⟩ n).heap[j]? = some (Obj.cells cur1 e fr1) ∧ cur1.size = cur.size := by
    intro j cur e fr hh
    by_cases e2 : j = b
    · subst e2
      obtain ⟨fr1, h1⟩ := hself cur e fr hh
      exact ⟨cur, fr1, h1, rfl⟩
    · exact ⟨cur, fr, (hne j e2).trans hh, rfl⟩
  have hcell : ∀ (j o' : Nat) (v : Value), w.cell? ⟨j, o', none⟩ = some v → (w.freeze ⟨b, o, none⟩ n).cell? ⟨j, o', none⟩ = some v := by
    intro j o' v hv
    by_cases e2 : j = b
    · subst e2
      have hlt := lt_of_cell hv
      cases hh : w.heap[j]? with
      | none => simp [World.cell?, hh] at hv
      | some ob =>
        cases ob with
        | cells cur e fr =>
          obtain ⟨fr1, h1⟩ := hself cur e fr hh
          simp only [World.cell?, hh] at hv
          simp only [World.cell?, h1]
          exact hv
        | _ => simp [World.cell?, hh] at hv
    · exact same_cells (hne j e2) o' v hv
  have hsz : (w.freeze ⟨b, o, none⟩ n).heap.size = w.heap.size := by unfold World.freeze; split <;> simp
  have hmono : Mono (cxOf φ st.mem av w0.heap.size) (cxOf φ st.mem av w0.heap.size) w (w.freeze ⟨b, o, none⟩ n) := ⟨rfl, fun _ _ hn => hn, fun j _ _ => hcell j, hshape⟩
  refine ⟨h.world hmono (fun k x j hk hj => hne j (fun e => hN (.inl ⟨k, x, hk, by rw [← e]; exact hj⟩))) ?_, hmono⟩
  refine h.keep.step (ext' := fun j => j = b) ⟨?_, ?_, ?_, by rw [hsz]; exact Nat.le_refl _, fun j _ hj => hne j hj, hshape⟩ (fun j hj e => by subst e; omega)
  all_goals (unfold World.freeze; split <;> rfl)

/-- a new object, in a new block -/
theorem Rel.after_new {d : Nat} {c v : V} {u : Value} {cs : Array Value} {e : TypeId} (h : Rel gl w0 ext av φ st a w)
    (hs : st.after (some d) { v := v, new := some c, pg := [d] } = some st')
    (hc : ∀ c', Mono (cxOf φ st.mem av w0.heap.size) c' w (w.alloc (.cells cs e)) → (∀ k, k ≠ d → c'.φ k = φ k) → c'.φ d = some w.heap.size → CRel c' (w.alloc (.cells cs e)) cs.toList c)
    (hv : ∀ c', Mono (cxOf φ st.mem av w0.heap.size) c' w (w.alloc (.cells cs e)) → c'.φ d = some w.heap.size → VRel c' (w.alloc (.cells cs e)) v u) :
    ∃ φ', Rel gl w0 ext av φ' st' (a.put (some d) u) (w.alloc (.cells cs e)) := by
  refine ⟨fun k => if k = d then some w.heap.size else φ k, ?_⟩
  have hnew0 : ∀ k, isNew (some d) { v := v, new := some c, pg := [d] } k ↔ k = d := fun k => by simp [isNew, eq_comm]
  have hmem : ∀ k x, st'.mem k = some x → (k = d ∧ x = c) ∨ (k ≠ d ∧ st.mem k = some x) := fun k x hk => by
    rcases after_mem hs k x hk with ⟨hn, hx⟩ | ⟨hn, hx⟩ | ⟨hn, hl, hx, hkx⟩
    · left; exact ⟨(hnew0 k).1 hn, by cases hx; rfl⟩
    · simp [lookN] at hx
    · exact .inr ⟨fun e => hn ((hnew0 k).2 e), hx⟩
  have hm : Mono (cxOf φ st.mem av w0.heap.size) (cxOf (fun k => if k = d then some w.heap.size else φ k) st'.mem av w0.heap.size) w (w.alloc (.cells cs e)) := by
    refine ⟨rfl, fun b hb hn hc => ?_, fun b hb _ => same_cells (alloc_old w _ b hb), fun b cur e' fr hh => ⟨cur, fr, ?_, rfl⟩⟩
    · rcases hc with ⟨k, x, hk, hb'⟩ | hc
      · rcases hmem k x hk with ⟨rfl, rfl⟩ | ⟨hne, hk⟩
        · simp at hb'; omega
        · try dsimp only at hb'
          rw [if_neg hne] at hb'
          exact hn (.inl ⟨k, x, hk, hb'⟩)
      · exact hn (.inr hc)
    · rw [alloc_old w _ b (Array.getElem?_eq_some_iff.1 hh).1]; exact hh
  have hφd : (fun k => if k = d then some w.heap.size else φ k) d = some w.heap.size := by simp
  refine h.after_gen hs (fun k hk => .inr ((hnew0 k).2 (by simpa using hk))) (fun k hk => if_neg (by simpa using hk)) hm ?_ (fun k x hx => by simp [lookN] at hx) ?_ ?_ ?_ (fun _ => hv _ hm hφd) ?_
  · exact fun k x b hk _ hn hb => alloc_old w _ b (own_lt h hk hb)
  · intro k x hx hd
    cases hx
    simp at hd
    subst hd
    exact .inl ⟨w.heap.size, cs, e, hφd, heap_alloc_new w _, hc _ hm (fun k hk => if_neg hk) hφd⟩
  · intro k k' x x' b hk hk' hb hb'
    rcases hmem k x hk with ⟨rfl, rfl⟩ | ⟨hne, hk⟩
    · rcases hmem k' x' hk' with ⟨rfl, rfl⟩ | ⟨hne', hk'⟩
      · rfl
      · simp at hb
        try dsimp only at hb'
        rw [if_neg hne'] at hb'
        have := own_lt h hk' hb'
        omega
    · try dsimp only at hb
      rw [if_neg hne] at hb
      rcases hmem k' x' hk' with ⟨rfl, rfl⟩ | ⟨hne', hk'⟩
      · simp at hb'
        have := own_lt h hk hb
        omega
      · try dsimp only at hb'
        rw [if_neg hne'] at hb'
        exact h.inj k k' x x' b hk hk' hb hb'
  · intro k x b hk hb
    rcases hmem k x hk with ⟨rfl, rfl⟩ | ⟨hne, hk⟩
    · simp at hb; left; have := h.keep.size; have := after_lt hs; have := h.few; omega
    · try dsimp only at hb
      rw [if_neg hne] at hb; exact h.own k x b hk hb
  · exact h.keep.trans ⟨rfl, rfl, rfl, by simp, fun k hk _ => alloc_old w _ k hk, hm.shape⟩

/-- a new growing row that has no block yet -/
theorem Rel.after_newNone {d : Nat} {r : Row} {v : V} {u : Value} (h : Rel gl w0 ext av φ st a w) (hr : r.len = 0)
    (hs : st.after (some d) { v := v, new := some (.row r), pg := [d] } = some st')
    (hc : ∀ c' : Cx, rowIn c' w [] r)
    (hv : ∀ c' : Cx, VRel c' w v u) :
    ∃ φ', Rel gl w0 ext av φ' st' (a.put (some d) u) w := by
  refine ⟨fun k => if k = d then none else φ k, ?_⟩
  have hnew0 : ∀ k, isNew (some d) { v := v, new := some (.row r), pg := [d] } k ↔ k = d := fun k => by simp [isNew, eq_comm]
  have hmem : ∀ k x, st'.mem k = some x → (k = d ∧ x = .row r) ∨ (k ≠ d ∧ st.mem k = some x) := fun k x hk => by
    rcases after_mem hs k x hk with ⟨hn, hx⟩ | ⟨hn, hx⟩ | ⟨hn, hl, hx, hkx⟩
    · left; exact ⟨(hnew0 k).1 hn, by cases hx; rfl⟩
    · simp [lookN] at hx
    · exact .inr ⟨fun e => hn ((hnew0 k).2 e), hx⟩
  have hm : Mono (cxOf φ st.mem av w0.heap.size) (cxOf (fun k => if k = d then none else φ k) st'.mem av w0.heap.size) w w := by
    refine Mono.of_le rfl (fun b hb => ?_) (fun _ => rfl)
    rcases hb with ⟨k, x, hk, hb'⟩ | hc
    · rcases hmem k x hk with ⟨rfl, rfl⟩ | ⟨hne, hk⟩
      · simp at hb'
      · try dsimp only at hb'
        rw [if_neg hne] at hb'
        exact .inl ⟨k, x, hk, hb'⟩
    · exact .inr hc
  refine h.after_gen hs (fun k hk => .inr ((hnew0 k).2 (by simpa using hk))) (fun k hk => if_neg (by simpa using hk)) hm (fun _ _ _ _ _ _ _ => rfl) (fun k x hx => by simp [lookN] at hx) ?_ ?_ ?_ (fun _ => hv _) h.keep
  · intro k x hx hd
    cases hx
    simp at hd
    subst hd
    exact .inr ⟨by simp [cxOf], Nat.lt_of_lt_of_le (after_lt hs) h.few, r, rfl, hr, hc _⟩
  · intro k k' x x' b hk hk' hb hb'
    rcases hmem k x hk with ⟨rfl, rfl⟩ | ⟨hne, hk⟩
    · simp at hb
    · rcases hmem k' x' hk' with ⟨rfl, rfl⟩ | ⟨hne', hk'⟩
      · simp at hb'
      · try dsimp only at hb
        rw [if_neg hne] at hb
        try dsimp only at hb'
        rw [if_neg hne'] at hb'
        exact h.inj k k' x x' b hk hk' hb hb'
  · intro k x b hk hb
    rcases hmem k x hk with ⟨rfl, rfl⟩ | ⟨hne, hk⟩
    · simp at hb
    · try dsimp only at hb
      rw [if_neg hne] at hb; exact h.own k x b hk hb

/-- one object's content is turned, in its block -/
theorem Rel.after_upd {dst : Option Nat} {k : Nat} {x y v : V} {pg : List Nat} {u : Value} {b : Nat} {cs cs' : Array Value} {e : TypeId} (h : Rel gl w0 ext av φ st a w)
    (hs : st.after dst { v := v, upd := [(k, y)], pg := pg } = some st') (hpg : ∀ j ∈ pg, j = k)
    (hk : st.mem k = some x) (hb : φ k = some b) (hh : w.heap[b]? = some (.cells cs e (0, 0)))
    (hw : w'.heap[b]? = some (.cells cs' e (0, 0))) (hsz : cs'.size = cs.size) (hoth : ∀ j, j ≠ b → w'.heap[j]? = w.heap[j]?)
    (hos : w'.os = w.os) (htape : w'.tape = w.tape) (hout : w'.output = w.output) (hhs : w.heap.size ≤ w'.heap.size)
    (hc : ∀ c', Mono (cxOf φ st.mem av w0.heap.size) c' w w' → c'.φ = φ → CRel c' w' cs'.toList y)
    (hv : dst.isSome = true → ∀ c', Mono (cxOf φ st.mem av w0.heap.size) c' w w' → c'.φ = φ → VRel c' w' v u) :
    Rel gl w0 ext av φ st' (a.put dst u) w' := by
  have hnew0 : ∀ j, ¬ isNew dst { v := v, upd := [(k, y)], pg := pg } j := fun j => by simp [isNew]
  have hmem : ∀ j z, st'.mem j = some z → (j = k ∧ z = y) ∨ (j ≠ k ∧ st.mem j = some z) := fun j z hj => by
    rcases after_mem hs j z hj with ⟨hn, _⟩ | ⟨hn, hx⟩ | ⟨hn, hl, hx, hkx⟩
    · exact absurd hn (hnew0 j)
    · simp only [lookN] at hx
      by_cases e : k = j
      · rw [if_pos e] at hx; cases hx; exact .inl ⟨e.symm, rfl⟩
      · rw [if_neg e] at hx; cases hx
    · simp only [lookN] at hl
      by_cases e : k = j
      · rw [if_pos e] at hl; cases hl
      · exact .inr ⟨fun x => e x.symm, hx⟩
  have hm : Mono (cxOf φ st.mem av w0.heap.size) (cxOf φ st'.mem av w0.heap.size) w w' := by
    refine ⟨rfl, fun b' _ hn hc => ?_, fun b' _ hn => same_cells (hoth b' (fun e => hn (.inl ⟨k, x, hk, by rw [e]; exact hb⟩))), fun b' cur e' fr h' => ?_⟩
    · rcases hc with ⟨j, z, hj, hb'⟩ | hc
      · rcases hmem j z hj with ⟨rfl, rfl⟩ | ⟨hne, hj⟩
        · exact hn (.inl ⟨j, x, hk, hb'⟩)
        · exact hn (.inl ⟨j, z, hj, hb'⟩)
      · exact hn (.inr hc)
    · by_cases e2 : b' = b
      · subst e2
        rw [hh] at h'
        cases h'
        exact ⟨cs', (0, 0), hw, hsz⟩
      · exact ⟨cur, fr, (hoth b' e2).trans h', rfl⟩
  refine h.after_gen hs (fun j hj => .inl ⟨y, by rw [hpg j hj]; simp [lookN]⟩) (fun _ _ => rfl) hm ?_ ?_ (fun j z hz => by cases hz) ?_ ?_ (fun hd => hv hd _ hm rfl) ?_
  · intro j z b' hj hl _ hb'
    refine hoth b' (fun e2 => ?_)
    subst e2
    have := h.inj j k z x b' hj hk hb' hb
    subst this
    simp [lookN] at hl
  · intro j z hz _
    simp only [lookN] at hz
    by_cases e2 : k = j
    · rw [if_pos e2] at hz; cases hz; subst e2; exact .inl ⟨b, cs', e, hb, hw, hc _ hm rfl⟩
    · rw [if_neg e2] at hz; cases hz
  · intro j j' z z' b' hj hj' hb1 hb2
    rcases hmem j z hj with ⟨rfl, rfl⟩ | ⟨hne, hj⟩
    · rcases hmem j' z' hj' with ⟨rfl, rfl⟩ | ⟨hne', hj'⟩
      · rfl
      · exact h.inj j j' x z' b' hk hj' hb1 hb2
    · rcases hmem j' z' hj' with ⟨rfl, rfl⟩ | ⟨hne', hj'⟩
      · exact h.inj j j' z x b' hj hk hb1 hb2
      · exact h.inj j j' z z' b' hj hj' hb1 hb2
  · intro j z b' hj hb1
    rcases hmem j z hj with ⟨rfl, rfl⟩ | ⟨hne, hj⟩
    · exact h.own j x b' hk hb1
    · exact h.own j z b' hj hb1
  · refine h.keep.step (ext' := fun j => j = b) ⟨hos, htape, hout, hhs, fun j _ hj => hoth j hj, hm.shape⟩ (fun j hj e2 => ?_)
    subst e2
    rcases h.own k x j hk hb with h1 | h1
    · omega
    · exact ⟨k, h1.1⟩

/-- a growing row's content is told anew, the world being as it was -/
theorem Rel.after_same {dst : Option Nat} {k : Nat} {x v : V} {r : Row} {u : Value} {pg : List Nat} (h : Rel gl w0 ext av φ st a w)
    (hs : st.after dst { v := v, upd := [(k, .row r)], pg := pg } = some st') (hpg : ∀ j ∈ pg, j = k)
    (hk : st.mem k = some x)
    (hc : ∀ c', Mono (cxOf φ st.mem av w0.heap.size) c' w w → c'.φ = φ → ORel c' w k (.row r))
    (hv : dst.isSome = true → ∀ c', Mono (cxOf φ st.mem av w0.heap.size) c' w w → c'.φ = φ → VRel c' w v u) :
    Rel gl w0 ext av φ st' (a.put dst u) w := by
  have hnew0 : ∀ j, ¬ isNew dst { v := v, upd := [(k, .row r)], pg := pg } j := fun j => by simp [isNew]
  have hmem : ∀ j z, st'.mem j = some z → (j = k ∧ z = .row r) ∨ (j ≠ k ∧ st.mem j = some z) := fun j z hj => by
    rcases after_mem hs j z hj with ⟨hn, _⟩ | ⟨hn, hx⟩ | ⟨hn, hl, hx, hkx⟩
    · exact absurd hn (hnew0 j)
    · simp only [lookN] at hx
      by_cases e : k = j
      · rw [if_pos e] at hx; cases hx; exact .inl ⟨e.symm, rfl⟩
      · rw [if_neg e] at hx; cases hx
    · simp only [lookN] at hl
      by_cases e : k = j
      · rw [if_pos e] at hl; cases hl
      · exact .inr ⟨fun x => e x.symm, hx⟩
  have hm : Mono (cxOf φ st.mem av w0.heap.size) (cxOf φ st'.mem av w0.heap.size) w w := by
    refine Mono.of_le rfl (fun b hb => ?_) (fun _ => rfl)
    rcases hb with ⟨j, z, hj, hb'⟩ | hc
    · rcases hmem j z hj with ⟨rfl, rfl⟩ | ⟨hne, hj⟩
      · exact .inl ⟨j, x, hk, hb'⟩
      · exact .inl ⟨j, z, hj, hb'⟩
    · exact .inr hc
  refine h.after_gen hs (fun j hj => .inl ⟨.row r, by rw [hpg j hj]; simp [lookN]⟩) (fun _ _ => rfl) hm (fun _ _ _ _ _ _ _ => rfl) ?_ (fun j z hz => by cases hz) ?_ ?_ (fun hd => hv hd _ hm rfl) h.keep
  · intro j z hz _
    simp only [lookN] at hz
    by_cases e2 : k = j
    · rw [if_pos e2] at hz; cases hz; subst e2; exact hc _ hm rfl
    · rw [if_neg e2] at hz; cases hz
  · intro j j' z z' b' hj hj' hb1 hb2
    rcases hmem j z hj with ⟨rfl, rfl⟩ | ⟨hne, hj⟩
    · rcases hmem j' z' hj' with ⟨rfl, rfl⟩ | ⟨hne', hj'⟩
      · rfl
      · exact h.inj j j' x z' b' hk hj' hb1 hb2
    · rcases hmem j' z' hj' with ⟨rfl, rfl⟩ | ⟨hne', hj'⟩
      · exact h.inj j j' z x b' hj hk hb1 hb2
      · exact h.inj j j' z z' b' hj hj' hb1 hb2
  · intro j z b' hj hb1
    rcases hmem j z hj with ⟨rfl, rfl⟩ | ⟨hne, hj⟩
    · exact h.own j x b' hk hb1
    · exact h.own j z b' hj hb1

/-- an append moved a growing row to a new block -/
theorem Rel.after_move {d k : Nat} {x v : V} {r : Row} {u : Value} {cs : Array Value} {e : TypeId} (h : Rel gl w0 ext av φ st a w)
    (hs : st.after (some d) { v := v, upd := [(k, .row r)], pg := [k] } = some st')
    (hk : st.mem k = some x) (hk1 : k < 1000)
    (hc : ∀ c', Mono (cxOf φ st.mem av w0.heap.size) c' w (w.alloc (.cells cs e)) → c'.φ k = some w.heap.size → CRel c' (w.alloc (.cells cs e)) cs.toList (.row r))
    (hv : ∀ c', Mono (cxOf φ st.mem av w0.heap.size) c' w (w.alloc (.cells cs e)) → c'.φ k = some w.heap.size → VRel c' (w.alloc (.cells cs e)) v u) :
    ∃ φ', Rel gl w0 ext av φ' st' (a.put (some d) u) (w.alloc (.cells cs e)) := by
  refine ⟨fun j => if j = k then some w.heap.size else φ j, ?_⟩
  have hnew0 : ∀ j, ¬ isNew (some d) { v := v, upd := [(k, .row r)], pg := [k] } j := fun j => by simp [isNew]
  have hmem : ∀ j z, st'.mem j = some z → (j = k ∧ z = .row r) ∨ (j ≠ k ∧ st.mem j = some z) := fun j z hj => by
    rcases after_mem hs j z hj with ⟨hn, _⟩ | ⟨hn, hx⟩ | ⟨hn, hl, hx, hkx⟩
    · exact absurd hn (hnew0 j)
    · simp only [lookN] at hx
      by_cases e : k = j
      · rw [if_pos e] at hx; cases hx; exact .inl ⟨e.symm, rfl⟩
      · rw [if_neg e] at hx; cases hx
    · simp only [lookN] at hl
      by_cases e : k = j
      · rw [if_pos e] at hl; cases hl
      · exact .inr ⟨fun x => e x.symm, hx⟩
  have hm : Mono (cxOf φ st.mem av w0.heap.size) (cxOf (fun j => if j = k then some w.heap.size else φ j) st'.mem av w0.heap.size) w (w.alloc (.cells cs e)) := by
    refine ⟨rfl, fun b hb hn hc => ?_, fun b hb _ => same_cells (alloc_old w _ b hb), fun b cur e' fr hh => ⟨cur, fr, ?_, rfl⟩⟩
    · rcases hc with ⟨j, z, hj, hb'⟩ | hc
      · rcases hmem j z hj with ⟨rfl, rfl⟩ | ⟨hne, hj⟩
        · simp at hb'; omega
        · try dsimp only at hb'
          rw [if_neg hne] at hb'
          exact hn (.inl ⟨j, z, hj, hb'⟩)
      · exact hn (.inr hc)
    · rw [alloc_old w _ b (Array.getElem?_eq_some_iff.1 hh).1]; exact hh
  have hφd : (fun j => if j = k then some w.heap.size else φ j) k = some w.heap.size := by simp
  refine h.after_gen hs (fun j hj => .inl ⟨.row r, by simp at hj; simp [lookN, hj]⟩) (fun j hj => if_neg (by simpa using hj)) hm ?_ ?_ (fun j z hz => by cases hz) ?_ ?_ (fun _ => hv _ hm hφd) ?_
  · exact fun j z b hj _ hn hb => alloc_old w _ b (own_lt h hj hb)
  · intro j z hz _
    simp only [lookN] at hz
    by_cases e2 : k = j
    · rw [if_pos e2] at hz; cases hz; subst e2; exact .inl ⟨w.heap.size, cs, e, hφd, heap_alloc_new w _, hc _ hm hφd⟩
    · rw [if_neg e2] at hz; cases hz
  · intro j j' z z' b hj hj' hb hb'
    rcases hmem j z hj with ⟨rfl, rfl⟩ | ⟨hne, hj⟩
    · rcases hmem j' z' hj' with ⟨rfl, rfl⟩ | ⟨hne', hj'⟩
      · rfl
      · simp at hb
        try dsimp only at hb'
        rw [if_neg hne'] at hb'
        have := own_lt h hj' hb'
        omega
    · try dsimp only at hb
      rw [if_neg hne] at hb
      rcases hmem j' z' hj' with ⟨rfl, rfl⟩ | ⟨hne', hj'⟩
      · simp at hb'
        have := own_lt h hj hb
        omega
      · try dsimp only at hb'
        rw [if_neg hne'] at hb'
        exact h.inj j j' z z' b hj hj' hb hb'
  · intro j z b hj hb
    rcases hmem j z hj with ⟨rfl, rfl⟩ | ⟨hne, hj⟩
    · simp at hb; left; have := h.keep.size; have := after_lt hs; have := h.few; omega
    · try dsimp only at hb
      rw [if_neg hne] at hb; exact h.own j z b hj hb
  · exact h.keep.trans ⟨rfl, rfl, rfl, by simp, fun j hj _ => alloc_old w _ j hj, hm.shape⟩

end Go.Vm

/- The types of a program as the evaluator sees them; what one operation's run answers: the pure ones. -/
namespace Go.Vm
open Go
set_option linter.unusedVariables false

/-! ### types -/

def Value.same : Value → Value → Bool
  | .bool a, .bool b => a == b
  | .int k a, .int l b => decide (k = l) && decide (a = b)
  | .string a, .string b => decide (a.data.toList = b.data.toList)
  | .slice none 0 0, .slice none 0 0 => true
  | .pointer none, .pointer none => true
  | _, _ => false

def sameL : List Value → List Value → Bool
  | [], [] => true
  | a :: as, b :: bs => Value.same a b && sameL as bs
  | _, _ => false

theorem Value.same_eq {a b : Value} (h : Value.same a b = true) : a = b := by
  unfold Value.same at h
  split at h
  · simp at h; rw [h]
  · simp at h; rw [h.1, h.2]
  · rename_i a b
    simp at h
    obtain ⟨⟨a⟩⟩ := a
    obtain ⟨⟨b⟩⟩ := b
    simp at h
    rw [h]
  · rfl
  · rfl
  · cases h

theorem sameL_eq : ∀ {a b : List Value}, sameL a b = true → a = b
  | [], [], _ => rfl
  | a :: as, b :: bs, h => by
    simp [sameL] at h
    rw [Value.same_eq h.1, sameL_eq h.2]
  | [], _ :: _, h => by simp [sameL] at h
  | _ :: _, [], h => by simp [sameL] at h

def zcell : Ty → Option Value
  | .b => some (.bool false)
  | .u w => some (.int (kw w) 0)
  | .i => some (.int .i64 0)
  | .s => some (.string ByteArray.empty)
  | .sl _ => some (.slice none 0 0)
  | .p => some (.pointer none)
  | _ => none

def zcells1 : Ty → Option (List Value)
  | .arr n e => (zcell e.root).map fun v => List.replicate (n * e.size) v
  | t => (zcell t).map fun v => [v]

def zcellsL : List Ty → Option (List Value)
  | [] => some []
  | t :: ts => match zcells1 t with
    | some a => match zcellsL ts with
      | some b => some (a ++ b)
      | none => none
    | none => none

def zcells : Ty → Option (List Value)
  | .st fs => zcellsL fs
  | t => zcells1 t

def isAggV : Value → Bool
  | .agg _ => true
  | _ => false

def zeroFits (z : Option Value) (ty : Ty) : Bool :=
  match zcells ty with
  | some l => match z with
    | some v => sameL v.cells.toList l && (isAggV v == !ty.flat)
    | none => false
  | none => true

def infoFits (P : Program) (t : Nat) (ty : Ty) : Bool :=
  match P.info? t with
  | some i => i.size == ty.size && decide (i.bytes ≤ 24 * ty.size) && zeroFits i.zero ty && decide (i.bytes ≤ ty.bsz)
  | none => false

def fieldsFit (P : Program) : Nat → List Ty → List Field → Bool
  | _, [], [] => true
  | o, t :: ts, f :: fs => f.offset == o && fieldsFit P (o + t.size) ts fs
  | _, _, _ => false

def mapO' {α β : Type} (f : α → Option β) : List α → Option (List β)
  | [] => some []
  | a :: as => match f a with
    | some b => match mapO' f as with
      | some bs => some (b :: bs)
      | none => none
    | none => none

def tyAt (P : Program) (n : Nat) (rec_ : Nat → Option Ty) (t : Nat) : Option Ty :=
  match P.underlying t with
  | some .bool => some .b
  | some (.int .u8) => some (.u 8)
  | some (.int .u16) => some (.u 16)
  | some (.int .u32) => some (.u 32)
  | some (.int .u64) => some (.u 64)
  | some (.int .i64) => some .i
  | some .string => some .s
  | some (.pointer _) => some .p
  | some (.slice e) => match rec_ e with
    | some t => some (.sl t)
    | none => none
  | some (.array k e) => match rec_ e with
    | some t' => if P.eqGuardType P.depth t = false then some (.arr k t') else none
    | none => none
  | some (.struct fs) => match mapO' (fun f => rec_ f.type) fs.toList with
    | some ts => if fieldsFit P 0 ts fs.toList = true then some (.st ts) else none
    | none => none
  | _ => none

def tyOf (P : Program) : Nat → Nat → Option Ty
  | 0, _ => none
  | n + 1, t => match tyAt P n (tyOf P n) t with
    | some ty => if infoFits P t ty = true then some ty else none
    | none => none

section
variable {P : Program} {n t : Nat} {ty : Ty}

theorem tyOf_at (h : tyOf P n t = some ty) : ∃ m, n = m + 1 ∧ tyAt P m (tyOf P m) t = some ty ∧ infoFits P t ty = true := by
  cases n with
  | zero => cases h
  | succ m =>
    simp only [tyOf] at h
    cases ha : tyAt P m (tyOf P m) t with
    | none => rw [ha] at h; cases h
    | some ty' =>
      rw [ha] at h
      by_cases hi : infoFits P t ty' = true
      · simp only [hi, if_true, Option.some.injEq] at h
        subst h
        exact ⟨m, rfl, ha, hi⟩
      · simp only [hi] at h; cases h

theorem tyOf_info (h : tyOf P n t = some ty) : ∃ i, P.info? t = some i ∧ i.size = ty.size ∧ i.bytes ≤ 24 * ty.size ∧ zeroFits i.zero ty = true := by
  obtain ⟨m, _, _, hi⟩ := tyOf_at h
  unfold infoFits at hi
  cases hq : P.info? t with
  | none => rw [hq] at hi; cases hi
  | some i =>
    rw [hq] at hi
    simp at hi
    exact ⟨i, rfl, hi.1.1.1, hi.1.1.2, hi.1.2⟩

theorem tyOf_bytes (h : tyOf P n t = some ty) : ∃ i, P.info? t = some i ∧ i.bytes ≤ ty.bsz := by
  obtain ⟨m, _, _, hi⟩ := tyOf_at h
  unfold infoFits at hi
  cases hq : P.info? t with
  | none => rw [hq] at hi; cases hi
  | some i =>
    rw [hq] at hi
    simp at hi
    exact ⟨i, rfl, hi.2⟩

/-- what the underlying type is, read off the evaluator's -/
def tyDesc (P : Program) (n t : Nat) : Ty → Prop
  | .b => P.underlying t = some .bool
  | .u w => okW w ∧ P.underlying t = some (.int (kw w))
  | .i => P.underlying t = some (.int .i64)
  | .s => P.underlying t = some .string
  | .p => ∃ e, P.underlying t = some (.pointer e)
  | .sl ty => ∃ e, P.underlying t = some (.slice e) ∧ tyOf P n e = some ty
  | .arr k ty => ∃ e, P.underlying t = some (.array k e) ∧ tyOf P n e = some ty ∧ P.eqGuardType P.depth t = false
  | .st ts => ∃ fs, P.underlying t = some (.struct fs) ∧ mapO' (fun f => tyOf P n f.type) fs.toList = some ts ∧ fieldsFit P 0 ts fs.toList = true
  | .o => False

theorem tyOf_desc (h : tyOf P n t = some ty) : ∃ m, tyDesc P m t ty := by
  obtain ⟨m, _, ha, _⟩ := tyOf_at h
  refine ⟨m, ?_⟩
  unfold tyAt at ha
  cases hu : P.underlying t with
  | none => rw [hu] at ha; cases ha
  | some d =>
    rw [hu] at ha
    cases d with
    | int k => cases k <;> simp at ha <;> subst ha <;> simp [tyDesc, hu, okW, kw]
    | slice e =>
      dsimp only at ha
      cases hr : tyOf P m e with
      | none => rw [hr] at ha; cases ha
      | some t' => rw [hr] at ha; cases ha; exact ⟨e, hu, hr⟩
    | array k e =>
      dsimp only at ha
      cases hr : tyOf P m e with
      | none => rw [hr] at ha; cases ha
      | some t' =>
        rw [hr] at ha
        by_cases hg : P.eqGuardType P.depth t = false
        · simp only [hg, if_true, Option.some.injEq] at ha; subst ha; exact ⟨e, hu, hr, hg⟩
        · simp only [hg] at ha; cases ha
    | struct fs =>
      dsimp only at ha
      cases hr : mapO' (fun f => tyOf P m f.type) fs.toList with
      | none => rw [hr] at ha; cases ha
      | some t' =>
        rw [hr] at ha
        by_cases hg : fieldsFit P 0 t' fs.toList = true
        · simp only [hg, if_true, Option.some.injEq] at ha; subst ha; exact ⟨fs, hu, hr, hg⟩
        · simp only [hg] at ha; cases ha
    | bool => cases ha; exact hu
    | string => cases ha; exact hu
    | pointer e => cases ha; exact ⟨e, hu⟩
    | _ => cases ha

end

/-! ### what the relations say of single values -/

section
variable {c : Cx} {w : World} {v : Value}

theorem inv_u {wd : Nat} {x : BitVec wd} (h : VRel c w (.u wd x) v) : okW wd ∧ v = ic wd x := by
  obtain ⟨h1, h2⟩ : okW wd ∧ [v] = [ic wd x] := h
  exact ⟨h1, by simpa using h2⟩
theorem inv_i {n : Int} (h : VRel c w (.i n) v) : inR n ∧ v = ii n := by
  obtain ⟨h1, h2⟩ : inR n ∧ [v] = [ii n] := h
  exact ⟨h1, by simpa using h2⟩
theorem inv_b {x : Bool} (h : VRel c w (.b x) v) : v = .bool x := by
  have h2 : [v] = [Value.bool x] := h
  simpa using h2
theorem inv_s {bs : Bytes} (h : VRel c w (.s bs) v) : ∃ s, v = .string s ∧ bytesOf s = bs ∧ bs.length ≤ LIM := by
  obtain ⟨s, h1, h2⟩ : ∃ s, [v] = [Value.string s] ∧ bytesOf s = bs ∧ bs.length ≤ LIM := h
  exact ⟨s, by simpa using h1, h2⟩
theorem inv_nils (h : VRel c w .nils v) : v = .slice none 0 0 := by
  have h2 : [v] = [Value.slice none 0 0] := h
  simpa using h2
theorem inv_nilp (h : VRel c w .nilp v) : v = .pointer none := by
  have h2 : [v] = [Value.pointer none] := h
  simpa using h2
theorem inv_p {k f o i : Nat} (h : VRel c w (.p k f o i) v) : ∃ b, c.φ k = some b ∧ v = .pointer (some ⟨b, o + i, none⟩) := by
  obtain ⟨b, h1, h2⟩ : ∃ b, c.φ k = some b ∧ [v] = [Value.pointer (some ⟨b, o + i, none⟩)] := h
  exact ⟨b, h1, by simpa using h2⟩
theorem inv_rp {r : Row} {i : Nat} (h : VRel c w (.rp r i) v) : ∃ blk off, v = .pointer (some ⟨blk, off + i * r.esz, none⟩) ∧ rowAt w c false blk off r := by
  obtain ⟨blk, off, h1, h2⟩ : ∃ blk off, [v] = [Value.pointer (some ⟨blk, off + i * r.esz, none⟩)] ∧ rowAt w c false blk off r := h
  exact ⟨blk, off, by simpa using h1, h2⟩
theorem inv_sl {fr : Bool} {r : Row} (h : VRel c w (.sl fr r) v) : slR w c fr v r := by
  obtain ⟨u, h1, h2⟩ : ∃ u, [v] = [u] ∧ slR w c fr u r := h
  simp at h1
  subst h1
  exact h2
theorem inv_os {k f o i len : Nat} (h : VRel c w (.os k f o i len) v) : ∃ b cap, c.φ k = some b ∧ v = .slice (some ⟨b, o + i, none⟩) len cap ∧ len ≤ cap := by
  obtain ⟨b, cap, h1, h2, h3, _⟩ := h
  exact ⟨b, cap, h1, by simpa using h2, h3⟩
theorem inv_os' {k f o i len : Nat} (h : VRel c w (.os k f o i len) v) : ∃ b cap, c.φ k = some b ∧ v = .slice (some ⟨b, o + i, none⟩) len cap ∧ len ≤ cap ∧ ∃ cur e fr, w.heap[b]? = some (.cells cur e fr) ∧ o + i + cap ≤ cur.size := by
  obtain ⟨b, cap, h1, h2, h3, h4⟩ := h
  exact ⟨b, cap, h1, by simpa using h2, h3, h4⟩
theorem inv_gr {k len : Nat} (h : VRel c w (.gr k len) v) : ∃ a cap, v = .slice a len cap ∧ len ≤ cap ∧
      ((a = none ∧ cap = 0) ∨ ∃ b cur e fr, c.φ k = some b ∧ a = some ⟨b, 0, none⟩ ∧ w.heap[b]? = some (.cells cur e fr) ∧ cap ≤ cur.size) := by
  obtain ⟨a, cap, h1, h2, h3⟩ := h
  exact ⟨a, cap, by simpa using h1, h2, h3⟩
theorem inv_agg {n : Nat} {r : Row} (h : VRel c w (.agg n r) v) : ∃ cs, v = .agg cs ∧ FRel c w (.agg n r) cs.toList := h
theorem inv_aggu {n wd : Nat} {xs : List (BitVec wd)} (h : VRel c w (.agg n (.u wd xs)) v) : okW wd ∧ xs.length = n ∧ v = .agg (xs.map (ic wd)).toArray := by
  obtain ⟨cs, rfl, h1, h2, h3⟩ := h
  exact ⟨h1, h2, by rw [← h3]⟩
end

/-! ### numbers -/

theorem kw_wrap {wd : Nat} (h : okW wd) (n : Int) : (kw wd).wrap n = n % (2 ^ wd : Nat) := by
  rcases h with rfl | rfl | rfl | rfl <;> simp [kw, IntKind.wrap, IntKind.bits, IntKind.signed]

theorem kw_bits {wd : Nat} (h : okW wd) : (kw wd).bits = wd := by
  rcases h with rfl | rfl | rfl | rfl <;> rfl

theorem kw_signed {wd : Nat} (h : okW wd) : (kw wd).signed = false := by
  rcases h with rfl | rfl | rfl | rfl <;> rfl

theorem ofInt_toNat {wd : Nat} (x : BitVec wd) : BitVec.ofInt wd (x.toNat : Int) = x := by
  apply BitVec.eq_of_toNat_eq
  simp

theorem ic_add {wd : Nat} (h : okW wd) (x y : BitVec wd) : Value.int (kw wd) ((kw wd).wrap ((x.toNat : Int) + y.toNat)) = ic wd (x + y) := by
  rw [kw_wrap h, ic, BitVec.toNat_add]; simp
theorem ic_mul {wd : Nat} (h : okW wd) (x y : BitVec wd) : Value.int (kw wd) ((kw wd).wrap ((x.toNat : Int) * y.toNat)) = ic wd (x * y) := by
  rw [kw_wrap h, ic, BitVec.toNat_mul]; simp
theorem ic_sub {wd : Nat} (h : okW wd) (x y : BitVec wd) : Value.int (kw wd) ((kw wd).wrap ((x.toNat : Int) - y.toNat)) = ic wd (x - y) := by
  rw [kw_wrap h, ic, BitVec.toNat_sub]
  congr 1
  have hx := x.isLt
  have hy := y.isLt
  generalize x.toNat = a at *
  generalize y.toNat = b at *
  have : (2 ^ wd : Nat) - b + a = a + 2 ^ wd - b := by omega
  rw [this]
  have h2 : ((a + 2 ^ wd - b : Nat) : Int) = (a : Int) - b + (2 ^ wd : Nat) := by omega
  rw [Int.natCast_emod, h2, Int.add_emod_right]

theorem ic_lt {wd : Nat} (h : okW wd) {m : Nat} (hm : m < 2 ^ wd) : Value.int (kw wd) ((kw wd).wrap (m : Int)) = .int (kw wd) m := by
  rw [kw_wrap h]
  congr 1
  have : ((m : Int) % (2 ^ wd : Nat)) = ((m % 2 ^ wd : Nat) : Int) := by simp
  rw [this, Nat.mod_eq_of_lt hm]

theorem run_bits {P : Program} {w : World} {wd : Nat} (hw : okW wd) (op : BinOp) (x y : BitVec wd) (z : BitVec wd)
    (h : (op = .and ∧ z = x &&& y) ∨ (op = .or ∧ z = x ||| y) ∨ (op = .xor ∧ z = x ^^^ y) ∨ (op = .andNot ∧ z = x &&& ~~~y)) :
    (Op.intBits op (kw wd) (x.toNat : Int) (y.toNat : Int)).run P w = .ok (ic wd z) w := by
  have key : ∀ {n : Nat} (k : IntKind) (hk : k.bits = n) (z : BitVec n), n = wd → okW wd → k = kw wd → Value.int k (k.wrap (z.toNat : Int)) = .int k (z.toNat : Int) := by
    intro n k hk zz e1 h2 e2
    subst e1
    subst e2
    exact ic_lt h2 zz.isLt
  rcases hw with rfl | rfl | rfl | rfl <;> rcases h with ⟨rfl, rfl⟩ | ⟨rfl, rfl⟩ | ⟨rfl, rfl⟩ | ⟨rfl, rfl⟩ <;>
    (simp only [Op.intBits, kw, Sem.run_pure, ic]
     simp only [Nat.reduceEqDiff, if_true, if_false, IntKind.bits, ofInt_toNat, Result.ok.injEq, and_true]
     first
     | exact key (n := 8) .u8 rfl _ rfl (by simp [okW]) rfl
     | exact key (n := 16) .u16 rfl _ rfl (by simp [okW]) rfl
     | exact key (n := 32) .u32 rfl _ rfl (by simp [okW]) rfl
     | exact key (n := 64) .u64 rfl _ rfl (by simp [okW]) rfl)

theorem toNat_inj_int {wd : Nat} {x y : BitVec wd} : ((x.toNat : Int) = y.toNat) ↔ x = y := by
  constructor
  · intro h; exact BitVec.eq_of_toNat_eq (by omega)
  · intro h; rw [h]

theorem beq_toNat {wd : Nat} (x y : BitVec wd) : ((x.toNat : Int) == y.toNat) = decide (x = y) := by
  rw [Bool.eq_iff_iff]; simp only [beq_iff_eq, decide_eq_true_eq]; exact toNat_inj_int

theorem run_binU {P : Program} {w : World} {wd : Nat} (hw : okW wd) (op : BinOp) (t : Nat) (x y : BitVec wd) (v : V) (c : Cx) (hsh : isSh op = false) (h : binU op x y = some v) :
    ∃ u, (binOp op t (ic wd x) (ic wd y)).run P w = .ok u w ∧ VRel c w v u := by
  have hyi : y ≠ 0 → ¬ ((y.toNat : Int) = 0) := fun h e => by
    apply h
    apply BitVec.eq_of_toNat_eq
    simpa using e
  cases op <;> simp only [binU, Option.some.injEq] at h
  case add => subst h; exact ⟨_, by simp [binOp, ic, Op.intArith]; rfl, hw, by rw [ic_add hw]⟩
  case sub => subst h; exact ⟨_, by simp [binOp, ic, Op.intArith]; rfl, hw, by rw [ic_sub hw]⟩
  case mul => subst h; exact ⟨_, by simp [binOp, ic, Op.intArith]; rfl, hw, by rw [ic_mul hw]⟩
  case quo =>
    obtain ⟨hy, h⟩ : y ≠ 0 ∧ some (V.u wd (x / y)) = some v := by
      by_cases hy : y = 0
      · rw [if_pos hy] at h; cases h
      · rw [if_neg hy] at h; exact ⟨hy, h⟩
    cases h
    refine ⟨.int (kw wd) ((kw wd).wrap ((x.toNat : Int).tdiv (y.toNat : Int))), ?_, hw, ?_⟩
    · simp only [binOp, ic, Op.intDiv, ne_eq, not_true_eq_false, if_false, if_neg (hyi hy)]; rfl
    have e : (x.toNat : Int).tdiv (y.toNat : Int) = ((x.toNat / y.toNat : Nat) : Int) := by
      rw [Int.tdiv_eq_ediv_of_nonneg (by omega)]; simp
    rw [e, ic_lt hw (Nat.lt_of_le_of_lt (Nat.div_le_self _ _) x.isLt), ic, BitVec.toNat_udiv]
  case rem =>
    obtain ⟨hy, h⟩ : y ≠ 0 ∧ some (V.u wd (x % y)) = some v := by
      by_cases hy : y = 0
      · rw [if_pos hy] at h; cases h
      · rw [if_neg hy] at h; exact ⟨hy, h⟩
    cases h
    refine ⟨.int (kw wd) ((x.toNat : Int).tmod (y.toNat : Int)), ?_, hw, ?_⟩
    · simp only [binOp, ic, Op.intDiv, ne_eq, not_true_eq_false, if_false, if_neg (hyi hy)]; rfl
    have e : (x.toNat : Int).tmod (y.toNat : Int) = ((x.toNat % y.toNat : Nat) : Int) := by
      rw [Int.tmod_eq_emod_of_nonneg (by omega)]; simp
    rw [e, ic, BitVec.toNat_umod]
  case and => subst h; exact ⟨_, by simp only [binOp, ic, ne_eq, not_true_eq_false, if_false]; exact run_bits hw .and x y _ (.inl ⟨rfl, rfl⟩), hw, rfl⟩
  case or => subst h; exact ⟨_, by simp only [binOp, ic, ne_eq, not_true_eq_false, if_false]; exact run_bits hw .or x y _ (.inr (.inl ⟨rfl, rfl⟩)), hw, rfl⟩
  case xor => subst h; exact ⟨_, by simp only [binOp, ic, ne_eq, not_true_eq_false, if_false]; exact run_bits hw .xor x y _ (.inr (.inr (.inl ⟨rfl, rfl⟩))), hw, rfl⟩
  case andNot => subst h; exact ⟨_, by simp only [binOp, ic, ne_eq, not_true_eq_false, if_false]; exact run_bits hw .andNot x y _ (.inr (.inr (.inr ⟨rfl, rfl⟩))), hw, rfl⟩
  case eql => subst h; exact ⟨_, by simp only [binOp, ic, ne_eq, not_true_eq_false, if_false, Op.intCmp, Sem.run_pure, beq_toNat], rfl⟩
  case neq => subst h; exact ⟨_, by simp only [binOp, ic, ne_eq, not_true_eq_false, if_false, Op.intCmp, Sem.run_pure, bne, beq_toNat], rfl⟩
  case lss => subst h; exact ⟨_, by simp only [binOp, ic, ne_eq, not_true_eq_false, if_false, Op.intCmp, Sem.run_pure]; rfl, by show [_] = [_]; simp [BitVec.lt_def]⟩
  case leq => subst h; exact ⟨_, by simp only [binOp, ic, ne_eq, not_true_eq_false, if_false, Op.intCmp, Sem.run_pure]; rfl, by show [_] = [_]; simp [BitVec.le_def]⟩
  case gtr => subst h; exact ⟨_, by simp only [binOp, ic, ne_eq, not_true_eq_false, if_false, Op.intCmp, Sem.run_pure]; rfl, by show [_] = [_]; simp [BitVec.lt_def]⟩
  case geq => subst h; exact ⟨_, by simp only [binOp, ic, ne_eq, not_true_eq_false, if_false, Op.intCmp, Sem.run_pure]; rfl, by show [_] = [_]; simp [BitVec.le_def]⟩
  all_goals (cases h)

theorem inRB_iff {n : Int} : inRB n = true ↔ inR n := by simp [inRB, inR]

theorem wrap_in {n : Int} (h : inR n) : IntKind.i64.wrap n = n := by
  rw [IntKind.wrap_i64]; unfold inR at h; omega

theorem chkI_some {n : Int} {v : V} (h : chkI n = some v) : inR n ∧ v = .i n := by
  obtain ⟨h1, h2⟩ := chk_some h
  exact ⟨inRB_iff.1 h1, by cases h2; rfl⟩

theorem or_lt {a b : Nat} (ha : a < 2 ^ 63) (hb : b < 2 ^ 63) : a ||| b < 2 ^ 63 := Nat.or_lt_two_pow ha hb

theorem xor_lt' {a b n : Nat} (ha : a < 2 ^ n) (hb : b < 2 ^ n) : a ^^^ b < 2 ^ n := Nat.xor_lt_two_pow ha hb
theorem and_lt' {a b n : Nat} (ha : a < 2 ^ n) (hb : b < 2 ^ n) : a &&& b < 2 ^ n := Nat.and_lt_two_pow a hb
theorem run_binI {P : Program} {w : World} (op : BinOp) (t : Nat) (x y : Int) (v : V) (c : Cx) (hx : inR x) (hy : inR y) (h : binI op x y = some v) :
    ∃ u, (binOp op t (ii x) (ii y)).run P w = .ok u w ∧ VRel c w v u := by
  cases op <;> simp only [binI, Option.some.injEq] at h
  case add => obtain ⟨h1, rfl⟩ := chkI_some h; exact ⟨_, by simp only [binOp, ii, ne_eq, not_true_eq_false, if_false, Op.intArith, Sem.run_pure, wrap_in h1], h1, rfl⟩
  case sub => obtain ⟨h1, rfl⟩ := chkI_some h; exact ⟨_, by simp only [binOp, ii, ne_eq, not_true_eq_false, if_false, Op.intArith, Sem.run_pure, wrap_in h1], h1, rfl⟩
  case mul => obtain ⟨h1, rfl⟩ := chkI_some h; exact ⟨_, by simp only [binOp, ii, ne_eq, not_true_eq_false, if_false, Op.intArith, Sem.run_pure, wrap_in h1], h1, rfl⟩
  case quo =>
    obtain ⟨⟨h1, h2⟩, h3⟩ := chk_some h
    cases h3
    have hq : inR (x / y) := by
      unfold inR at *
      have := Int.ediv_le_self y h1
      have h5 : 0 ≤ x / y := Int.ediv_nonneg h1 (by omega)
      omega
    refine ⟨ii (x / y), ?_, hq, rfl⟩
    have e : x.tdiv y = x / y := Int.tdiv_eq_ediv_of_nonneg h1
    simp only [binOp, ii, ne_eq, not_true_eq_false, if_false, Op.intDiv, if_neg (show ¬ y = 0 by omega), Sem.run_pure, e, wrap_in hq]
  case rem =>
    obtain ⟨⟨h1, h2⟩, h3⟩ := chk_some h
    cases h3
    have hq : inR (x % y) := by
      unfold inR at *
      have := Int.emod_lt_of_pos x h2
      have := Int.emod_nonneg x (show y ≠ 0 by omega)
      omega
    refine ⟨ii (x % y), ?_, hq, rfl⟩
    have e : x.tmod y = x % y := Int.tmod_eq_emod_of_nonneg h1
    simp only [binOp, ii, ne_eq, not_true_eq_false, if_false, Op.intDiv, if_neg (show ¬ y = 0 by omega), Sem.run_pure, e]
  case or =>
    obtain ⟨⟨h1, h2⟩, h3⟩ := chk_some h
    cases h3
    have hlt : x.toNat ||| y.toNat < 2 ^ 63 := or_lt (by unfold inR at hx; omega) (by unfold inR at hy; omega)
    have hq : inR ((x.toNat ||| y.toNat : Nat) : Int) := by unfold inR; omega
    refine ⟨ii ((x.toNat ||| y.toNat : Nat) : Int), ?_, hq, rfl⟩
    have ex : BitVec.ofInt 64 x = BitVec.ofNat 64 x.toNat := by
      apply BitVec.eq_of_toNat_eq; simp [BitVec.toNat_ofInt]; omega
    have ey : BitVec.ofInt 64 y = BitVec.ofNat 64 y.toNat := by
      apply BitVec.eq_of_toNat_eq; simp [BitVec.toNat_ofInt]; omega
    simp only [binOp, ii, ne_eq, not_true_eq_false, if_false, Op.intBits, IntKind.bits, Sem.run_pure, ex, ey]
    have hx' : x.toNat < 2 ^ 64 := by unfold inR at hx; omega
    have hy' : y.toNat < 2 ^ 64 := by unfold inR at hy; omega
    show Result.ok (Value.int .i64 (IntKind.i64.wrap (((BitVec.ofNat 64 x.toNat ||| BitVec.ofNat 64 y.toNat : BitVec 64).toNat : Nat) : Int))) w = _
    rw [BitVec.toNat_or, BitVec.toNat_ofNat, BitVec.toNat_ofNat, Nat.mod_eq_of_lt hx', Nat.mod_eq_of_lt hy', wrap_in hq]
  case xor =>
    obtain ⟨⟨h1, h2⟩, h3⟩ := chk_some h
    cases h3
    have hlt : x.toNat ^^^ y.toNat < 2 ^ 63 := xor_lt' (by unfold inR at hx; omega) (by unfold inR at hy; omega)
    have hq : inR ((x.toNat ^^^ y.toNat : Nat) : Int) := by unfold inR; omega
    refine ⟨ii ((x.toNat ^^^ y.toNat : Nat) : Int), ?_, hq, rfl⟩
    have ex : BitVec.ofInt 64 x = BitVec.ofNat 64 x.toNat := by
      apply BitVec.eq_of_toNat_eq; simp [BitVec.toNat_ofInt]; omega
    have ey : BitVec.ofInt 64 y = BitVec.ofNat 64 y.toNat := by
      apply BitVec.eq_of_toNat_eq; simp [BitVec.toNat_ofInt]; omega
    simp only [binOp, ii, ne_eq, not_true_eq_false, if_false, Op.intBits, IntKind.bits, Sem.run_pure, ex, ey]
    have hx' : x.toNat < 2 ^ 64 := by unfold inR at hx; omega
    have hy' : y.toNat < 2 ^ 64 := by unfold inR at hy; omega
    show Result.ok (Value.int .i64 (IntKind.i64.wrap (((BitVec.ofNat 64 x.toNat ^^^ BitVec.ofNat 64 y.toNat : BitVec 64).toNat : Nat) : Int))) w = _
    rw [BitVec.toNat_xor, BitVec.toNat_ofNat, BitVec.toNat_ofNat, Nat.mod_eq_of_lt hx', Nat.mod_eq_of_lt hy', wrap_in hq]
  case and =>
    obtain ⟨⟨h1, h2⟩, h3⟩ := chk_some h
    cases h3
    have hlt : x.toNat &&& y.toNat < 2 ^ 63 := and_lt' (by unfold inR at hx; omega) (by unfold inR at hy; omega)
    have hq : inR ((x.toNat &&& y.toNat : Nat) : Int) := by unfold inR; omega
    refine ⟨ii ((x.toNat &&& y.toNat : Nat) : Int), ?_, hq, rfl⟩
    have ex : BitVec.ofInt 64 x = BitVec.ofNat 64 x.toNat := by
      apply BitVec.eq_of_toNat_eq; simp [BitVec.toNat_ofInt]; omega
    have ey : BitVec.ofInt 64 y = BitVec.ofNat 64 y.toNat := by
      apply BitVec.eq_of_toNat_eq; simp [BitVec.toNat_ofInt]; omega
    simp only [binOp, ii, ne_eq, not_true_eq_false, if_false, Op.intBits, IntKind.bits, Sem.run_pure, ex, ey]
    have hx' : x.toNat < 2 ^ 64 := by unfold inR at hx; omega
    have hy' : y.toNat < 2 ^ 64 := by unfold inR at hy; omega
    show Result.ok (Value.int .i64 (IntKind.i64.wrap (((BitVec.ofNat 64 x.toNat &&& BitVec.ofNat 64 y.toNat : BitVec 64).toNat : Nat) : Int))) w = _
    rw [BitVec.toNat_and, BitVec.toNat_ofNat, BitVec.toNat_ofNat, Nat.mod_eq_of_lt hx', Nat.mod_eq_of_lt hy', wrap_in hq]
  case eql => subst h; exact ⟨_, by simp only [binOp, ii, ne_eq, not_true_eq_false, if_false, Op.intCmp, Sem.run_pure]; rfl, by show [_] = [_]; rw [show (x == y) = decide (x = y) from by rw [Bool.eq_iff_iff]; simp]⟩
  case neq => subst h; exact ⟨_, by simp only [binOp, ii, ne_eq, not_true_eq_false, if_false, Op.intCmp, Sem.run_pure, bne]; rfl, by show [_] = [_]; rw [show (x == y) = decide (x = y) from by rw [Bool.eq_iff_iff]; simp]⟩
  case lss => subst h; exact ⟨_, by simp only [binOp, ii, ne_eq, not_true_eq_false, if_false, Op.intCmp, Sem.run_pure], rfl⟩
  case leq => subst h; exact ⟨_, by simp only [binOp, ii, ne_eq, not_true_eq_false, if_false, Op.intCmp, Sem.run_pure], rfl⟩
  case gtr => subst h; exact ⟨_, by simp only [binOp, ii, ne_eq, not_true_eq_false, if_false, Op.intCmp, Sem.run_pure]; rfl, by show [_] = [_]; simp⟩
  case geq => subst h; exact ⟨_, by simp only [binOp, ii, ne_eq, not_true_eq_false, if_false, Op.intCmp, Sem.run_pure]; rfl, by show [_] = [_]; simp⟩
  all_goals (cases h)

end Go.Vm

/- Rows: their cells, parts, and what is read and written. -/
namespace Go.Vm
open Go
set_option linter.unusedVariables false

section
variable {c : Cx} {w : World}

theorem rowVals_len {r : Row} {vs : List Value} (h : rowVals c w r vs) : vs.length = r.len := by
  cases r with
  | u wd xs => rw [h.2]; simp [Row.len]
  | i xs => rw [h.1]; simp [Row.len]
  | s xs => exact (All2.length h).symm
  | b f xs => exact (All2.length h).symm
  | a xs => exact h.elim

theorem All2_take {α β : Type} {R : α → β → Prop} : ∀ (n : Nat) {as : List α} {bs : List β}, All2 R as bs → All2 R (as.take n) (bs.take n)
  | 0, _, _, _ => by simp [All2]
  | n + 1, [], [], _ => by simp [All2]
  | n + 1, _ :: _, _ :: _, h => ⟨h.1, All2_take n h.2⟩
  | _ + 1, [], _ :: _, h => h.elim
  | _ + 1, _ :: _, [], h => h.elim

theorem All2_drop {α β : Type} {R : α → β → Prop} : ∀ (n : Nat) {as : List α} {bs : List β}, All2 R as bs → All2 R (as.drop n) (bs.drop n)
  | 0, _, _, h => by simpa using h
  | n + 1, [], [], _ => by simp [All2]
  | n + 1, _ :: _, _ :: _, h => by simpa using All2_drop n h.2
  | _ + 1, [], _ :: _, h => h.elim
  | _ + 1, _ :: _, [], h => h.elim

theorem All2_append {α β : Type} {R : α → β → Prop} : ∀ {as : List α} {bs : List β} {as' : List α} {bs' : List β}, All2 R as bs → All2 R as' bs' → All2 R (as ++ as') (bs ++ bs')
  | [], [], _, _, _, h => by simpa using h
  | _ :: _, _ :: _, _, _, h, h' => ⟨h.1, All2_append h.2 h'⟩
  | [], _ :: _, _, _, h, _ => h.elim
  | _ :: _, [], _, _, h, _ => h.elim

theorem rowVals_sub {r : Row} {vs : List Value} (h : rowVals c w r vs) (i n : Nat) : rowVals c w (r.sub i n) ((vs.drop i).take n) := by
  unfold Row.sub
  by_cases hq : i = 0 ∧ n = r.len
  · rw [if_pos hq, hq.1, hq.2, List.drop_zero, List.take_of_length_le (by rw [rowVals_len h]; exact Nat.le_refl _)]; exact h
  · rw [if_neg hq]
    cases r with
    | u wd xs => exact ⟨h.1, by rw [h.2]; simp [subL, List.map_take, List.map_drop]⟩
    | i xs => exact ⟨by rw [h.1]; simp [subL, List.map_take, List.map_drop], fun x hx => h.2 x (List.mem_of_mem_drop (List.mem_of_mem_take hx))⟩
    | s xs => exact All2_take n (All2_drop i h)
    | b f xs => exact All2_take n (All2_drop i h)
    | a xs => exact h.elim

theorem Row.sub_len (r : Row) (i n : Nat) (h : i + n ≤ r.len) : (r.sub i n).len = n := by
  unfold Row.sub
  by_cases hq : i = 0 ∧ n = r.len
  · rw [if_pos hq, hq.2]
  · rw [if_neg hq]
    cases r <;> simp [Row.len, subL] at * <;> omega

theorem Row.sub_esz (r : Row) (i n : Nat) : (r.sub i n).esz = r.esz := by
  unfold Row.sub
  split
  · rfl
  · cases r <;> rfl

theorem rowVals_one {r : Row} {vs : List Value} (h : rowVals c w r vs) : ∀ v ∈ vs, v.oneCell' = true := by
  cases r with
  | u wd xs => rw [h.2]; intro v hv; obtain ⟨x, _, rfl⟩ := List.mem_map.1 hv; rfl
  | i xs => rw [h.1]; intro v hv; obtain ⟨x, _, rfl⟩ := List.mem_map.1 hv; rfl
  | s xs =>
    intro v hv
    obtain ⟨j, hj⟩ := List.getElem?_of_mem hv
    have hl := All2.length h
    have hlt : j < xs.length := by rw [hl]; exact (List.getElem?_eq_some_iff.1 hj).1
    obtain ⟨b, hb, s, h1, _⟩ := All2.get h j _ (List.getElem?_eq_getElem hlt)
    rw [hj] at hb; cases hb; rw [h1]; rfl
  | b f xs =>
    intro v hv
    obtain ⟨j, hj⟩ := List.getElem?_of_mem hv
    have hl := All2.length h
    have hlt : j < xs.length := by rw [hl]; exact (List.getElem?_eq_some_iff.1 hj).1
    obtain ⟨b, hb, a, len, cap, h1, _⟩ := All2.get h j _ (List.getElem?_eq_getElem hlt)
    rw [hj] at hb; cases hb; rw [h1]; rfl
  | a xs => exact h.elim

theorem FRel_agg {n : Nat} {r : Row} {cs : List Value} (h : FRel c w (.agg n r) cs) : rowVals c w r cs ∧ r.len = n ∧ r.esz = 1 ∧ ((∃ wd xs, r = .u wd xs) ∨ ∃ xs, r = .i xs) := by
  cases r with
  | u wd xs => exact ⟨⟨h.1, h.2.2⟩, h.2.1, rfl, .inl ⟨wd, xs, rfl⟩⟩
  | i xs => exact ⟨⟨h.2.1, h.2.2⟩, h.1, rfl, .inr ⟨xs, rfl⟩⟩
  | s xs => exact h.elim
  | b f xs => exact h.elim
  | a xs => exact h.elim

theorem agg_of_vals {n : Nat} {r : Row} {cs : List Value} (h : rowVals c w r cs) (hl : r.len = n) (hk : (∃ wd xs, r = .u wd xs) ∨ ∃ xs, r = .i xs) : FRel c w (.agg n r) cs := by
  rcases hk with ⟨wd, xs, rfl⟩ | ⟨xs, rfl⟩
  · exact ⟨h.1, hl, h.2⟩
  · exact ⟨hl, h.1, h.2⟩

theorem Row.sub_kind {r : Row} (i n : Nat) (hk : (∃ wd xs, r = .u wd xs) ∨ ∃ xs, r = .i xs) : (∃ wd xs, r.sub i n = .u wd xs) ∨ ∃ xs, r.sub i n = .i xs := by
  rcases hk with ⟨wd, xs, rfl⟩ | ⟨xs, rfl⟩ <;> unfold Row.sub <;> split <;> simp

theorem rowAt_vals {fr : Bool} {blk off : Nat} {r : Row} (h : rowAt w c fr blk off r) (h1 : r.esz = 1) :
    ∃ vs, rowVals c w r vs ∧ ∀ j u, vs[j]? = some u → roCell w (c.fr fr) blk (off + j) u := by
  cases r with
  | u wd xs =>
    refine ⟨xs.map (ic wd), ⟨h.1, rfl⟩, fun j u hu => ?_⟩
    rw [List.getElem?_map] at hu
    cases hx : xs[j]? with
    | none => rw [hx] at hu; cases hu
    | some x => rw [hx] at hu; cases hu; exact h.2 j x hx
  | i xs =>
    refine ⟨xs.map ii, ⟨rfl, fun x hx => ?_⟩, fun j u hu => ?_⟩
    · obtain ⟨j, hj⟩ := List.getElem?_of_mem hx
      exact (h j x hj).2
    · rw [List.getElem?_map] at hu
      cases hx : xs[j]? with
      | none => rw [hx] at hu; cases hu
      | some x => rw [hx] at hu; cases hu; exact (h j x hx).1
  | s xs =>
    refine ⟨(List.range xs.length).map (fun j => (w.cell? ⟨blk, off + j, none⟩).getD undef), All2.of_get (by simp) (fun j a b ha hb => ?_), fun j u hu => ?_⟩
    · obtain ⟨s, hs, h2⟩ := h j a ha
      have hlt := (List.getElem?_eq_some_iff.1 ha).1
      simp [hlt, hs.2] at hb
      exact ⟨s, hb.symm, h2⟩
    · by_cases hlt : j < xs.length
      · obtain ⟨s, hs, h2⟩ := h j _ (List.getElem?_eq_getElem hlt)
        simp [hlt, hs.2] at hu
        subst hu
        exact hs
      · simp [hlt] at hu
  | b f xs =>
    refine ⟨(List.range xs.length).map (fun j => (w.cell? ⟨blk, off + j, none⟩).getD undef), All2.of_get (by simp) (fun j a b ha hb => ?_), fun j u hu => ?_⟩
    · obtain ⟨s, hs, h2⟩ := h j a ha
      have hlt := (List.getElem?_eq_some_iff.1 ha).1
      simp [hlt, hs.2] at hb
      subst hb
      exact h2
    · by_cases hlt : j < xs.length
      · obtain ⟨s, hs, h2⟩ := h j _ (List.getElem?_eq_getElem hlt)
        simp [hlt, hs.2] at hu
        subst hu
        exact hs
      · simp [hlt] at hu
  | a xs => simp [Row.esz] at h1

/-- a row whose cells are these, in a block that is only read -/
theorem rowAt_of_vals {fr : Bool} {blk off : Nat} {r : Row} {vs : List Value} (h : rowVals c w r vs) (hc : ∀ j u, vs[j]? = some u → roCell w (c.fr fr) blk (off + j) u) : rowAt w c fr blk off r := by
  cases r with
  | u wd xs => exact ⟨h.1, fun j x hx => hc j _ (by rw [h.2, List.getElem?_map, hx]; rfl)⟩
  | i xs => exact fun j x hx => ⟨hc j _ (by rw [h.1, List.getElem?_map, hx]; rfl), h.2 x (List.mem_of_getElem? hx)⟩
  | s xs => exact fun j x hx => let ⟨v, hv, s, h1, h2⟩ := All2.get h j x hx; ⟨s, by rw [← h1]; exact hc j v hv, h2⟩
  | b f xs => exact fun j x hx => let ⟨v, hv, h1⟩ := All2.get h j x hx; ⟨v, hc j v hv, h1⟩
  | a xs => exact h.elim

theorem rowAt_weak {blk off : Nat} {r : Row} (h : rowAt w c true blk off r) : rowAt w c false blk off r := by
  have k : ∀ {b o : Nat} {v : Value}, roCell w (c.fr true) b o v → roCell w (c.fr false) b o v := fun h => ⟨fr_N true h.1, h.2⟩
  cases r with
  | u wd xs => exact ⟨h.1, fun j x hx => k (h.2 j x hx)⟩
  | i xs => exact fun j x hx => ⟨k (h j x hx).1, (h j x hx).2⟩
  | s xs => exact fun j x hx => let ⟨s, h1, h2⟩ := h j x hx; ⟨s, k h1, h2⟩
  | b f xs => exact fun j x hx => let ⟨v, h1, h2⟩ := h j x hx; ⟨v, k h1, h2⟩
  | a xs => exact fun j x hx => let ⟨h1, h2, h3, h4, v, h5, h6⟩ := h j x hx; ⟨k h1, h2, k h3, h4, v, k h5, h6⟩

theorem rowAt_sub {fr : Bool} {blk off : Nat} {r : Row} (h : rowAt w c fr blk off r) (i n : Nat) : rowAt w c fr blk (off + i * r.esz) (r.sub i n) := by
  unfold Row.sub
  by_cases hq : i = 0 ∧ n = r.len
  · rw [if_pos hq, hq.1]; simpa using h
  · rw [if_neg hq]
    have key : ∀ {α : Type} (xs : List α) (j : Nat) (x : α), (subL xs i n)[j]? = some x → xs[i + j]? = some x := by
      intro α xs j x hx
      simp only [subL, List.getElem?_take, List.getElem?_drop] at hx
      split at hx
      · exact hx
      · cases hx
    cases r with
    | u wd xs => exact ⟨h.1, fun j x hx => by have := h.2 (i + j) x (key xs j x hx); simp only [Row.esz, Nat.mul_one]; rwa [Nat.add_assoc]⟩
    | i xs => exact fun j x hx => by have := h (i + j) x (key xs j x hx); simp only [Row.esz, Nat.mul_one]; rwa [Nat.add_assoc]
    | s xs => exact fun j x hx => by have := h (i + j) x (key xs j x hx); simp only [Row.esz, Nat.mul_one]; rwa [Nat.add_assoc]
    | b f xs => exact fun j x hx => by have := h (i + j) x (key xs j x hx); simp only [Row.esz, Nat.mul_one]; rwa [Nat.add_assoc]
    | a xs =>
      intro j x hx
      have := h (i + j) x (key xs j x hx)
      simp only [Row.esz]
      have e : off + i * 3 + 3 * j = off + 3 * (i + j) := by omega
      rw [e]
      exact this

/-- an element of a row, as a value and as a cell -/
theorem rowVals_get {r : Row} {vs : List Value} (h : rowVals c w r vs) {j : Nat} {x : V} (hj : j < r.len) (hx : r.get j = some x) : ∃ u, vs[j]? = some u ∧ VRel c w x u ∧ FRel c w x [u] := by
  cases r with
  | u wd xs =>
    cases hx
    have hlt : j < xs.length := hj
    refine ⟨ic wd xs[j], by rw [h.2]; simp [hlt], ?_, ?_⟩
    · exact ⟨h.1, by simp [List.getD, hlt]⟩
    · exact ⟨h.1, by simp [List.getD, hlt]⟩
  | i xs =>
    cases hx
    have hlt : j < xs.length := hj
    refine ⟨ii xs[j], by rw [h.1]; simp [hlt], ⟨?_, by simp [List.getD, hlt]⟩, ⟨?_, by simp [List.getD, hlt]⟩⟩ <;> (simp [List.getD, hlt]; exact h.2 _ (List.getElem_mem _))
  | s xs =>
    cases hx
    have hlt : j < xs.length := hj
    obtain ⟨v, hv, s, h1, h2, h3⟩ := All2.get h j _ (List.getElem?_eq_getElem hlt)
    refine ⟨v, hv, ?_, ?_⟩ <;> exact ⟨s, by simp [h1], by simp [List.getD, hlt, h2], by simp [List.getD, hlt]; exact h3⟩
  | b f xs =>
    cases hx
    have hlt : j < xs.length := hj
    obtain ⟨v, hv, h1⟩ := All2.get h j _ (List.getElem?_eq_getElem hlt)
    have hs : slR w c f v (.u 8 (xs.getD j [])) := by
      obtain ⟨a, len, cap, e1, e2, e3, e4, e5⟩ := h1
      refine ⟨a, len, cap, e1, by simp [Row.len, List.getD, hlt, e2], e3, by simp [Row.len, List.getD, hlt]; exact e4, .inl rfl, ?_⟩
      rcases e5 with e5 | ⟨blk, off, e6, e7⟩
      · exact .inl (by simp [Row.len, List.getD, hlt]; exact List.eq_nil_of_length_eq_zero e5)
      · exact .inr ⟨blk, off, e6, ⟨.inl rfl, fun i y hy => e7 i y (by simpa [List.getD, hlt] using hy)⟩⟩
    exact ⟨v, hv, ⟨v, rfl, hs⟩, ⟨v, rfl, hs⟩⟩
  | a xs => exact h.elim

theorem rowVals_set {r r' : Row} {vs : List Value} (h : rowVals c w r vs) {j : Nat} {x : V} {u : Value} (hs : r.set j x = some r') (hu : VRel c w x u) : rowVals c w r' (vs.set j u) ∧ r'.len = r.len ∧ u.oneCell' = true := by
  cases r with
  | u wd xs =>
    cases x with
    | u w' y =>
      simp only [Row.set] at hs
      by_cases e : w' = wd
      · subst e
        simp only [dite_true, Option.some.injEq, castB_rfl] at hs
        subst hs
        obtain ⟨h1, rfl⟩ := inv_u hu
        exact ⟨⟨h.1, by rw [h.2, List.map_set]⟩, by simp [Row.len], rfl⟩
      · simp [e] at hs
    | _ => cases hs
  | i xs =>
    cases x with
    | i n =>
      cases hs
      obtain ⟨h1, rfl⟩ := inv_i hu
      refine ⟨⟨by rw [h.1, List.map_set], fun x hx => ?_⟩, by simp [Row.len], rfl⟩
      rcases List.mem_or_eq_of_mem_set hx with hx | rfl
      · exact h.2 x hx
      · exact h1
    | _ => cases hs
  | _ => cases hs

theorem map_splL {α β : Type} (f : α → β) (xs : List α) (i : Nat) (ys : List α) : (splL xs i ys).map f = splL (xs.map f) i (ys.map f) := by
  simp [splL, List.map_take, List.map_drop]

theorem splL_len {α : Type} (xs : List α) (i : Nat) (ys : List α) (h : i + ys.length ≤ xs.length) : (splL xs i ys).length = xs.length := by
  simp [splL]; omega

theorem rowVals_splice {r q r' : Row} {vs us : List Value} (h : rowVals c w r vs) (hq : rowVals c w q us) {i : Nat} (hs : r.splice i q = some r') (hl : i + q.len ≤ r.len) :
    rowVals c w r' (splL vs i us) ∧ r'.len = r.len ∧ ((∃ wd xs, r' = .u wd xs) ∨ ∃ xs, r' = .i xs) := by
  cases r with
  | u wd xs =>
    cases q with
    | u w' ys =>
      simp only [Row.splice] at hs
      by_cases e : w' = wd
      · subst e
        simp only [dite_true, Option.some.injEq, castL_rfl] at hs
        subst hs
        refine ⟨⟨h.1, by rw [h.2, hq.2, map_splL]⟩, splL_len xs i ys hl, .inl ⟨_, _, rfl⟩⟩
      · simp [e] at hs
    | _ => cases hs
  | i xs =>
    cases q with
    | i ys =>
      cases hs
      refine ⟨⟨by rw [h.1, hq.1, map_splL], fun x hx => ?_⟩, splL_len xs i ys hl, .inr ⟨_, rfl⟩⟩
      simp only [splL, List.mem_append] at hx
      rcases hx with (hx | hx) | hx
      · exact h.2 x (List.mem_of_mem_take hx)
      · exact hq.2 x hx
      · exact h.2 x (List.mem_of_mem_drop hx)
    | _ => cases hs
  | _ => cases hs

theorem rowVals_app {r q r' : Row} {vs us : List Value} (h : rowVals c w r vs) (hq : rowVals c w q us) (hs : r.app q = some r') : rowVals c w r' (vs ++ us) ∧ r'.len = r.len + q.len := by
  cases r with
  | u wd xs =>
    cases q with
    | u w' ys =>
      simp only [Row.app] at hs
      by_cases e : w' = wd
      · subst e
        simp only [dite_true, Option.some.injEq, castL_rfl] at hs
        subst hs
        exact ⟨⟨h.1, by rw [h.2, hq.2]; simp⟩, by simp [Row.len]⟩
      · simp [e] at hs
    | _ => cases hs
  | i xs =>
    cases q with
    | i ys =>
      cases hs
      refine ⟨⟨by rw [h.1, hq.1]; simp, fun x hx => ?_⟩, by simp [Row.len]⟩
      rcases List.mem_append.1 hx with hx | hx
      · exact h.2 x hx
      · exact hq.2 x hx
    | _ => cases hs
  | s xs =>
    cases q with
    | s ys => cases hs; exact ⟨All2_append h hq, by simp [Row.len]⟩
    | _ => cases hs
  | b f xs =>
    cases q with
    | b g ys =>
      cases hs
      refine ⟨All2_append (All2.mono (fun x v hh => ?_) h) (All2.mono (fun x v hh => ?_) hq), by simp [Row.len]⟩
      · cases f with
        | false => simpa using hh
        | true => cases g with
          | true => exact hh
          | false =>
            obtain ⟨a, len, cap, e1, e2, e3, e4, e5⟩ := hh
            refine ⟨a, len, cap, e1, e2, e3, e4, e5.imp id (fun ⟨blk, off, e6, e7⟩ => ⟨blk, off, e6, fun j y hy => ⟨fr_N true (e7 j y hy).1, (e7 j y hy).2⟩⟩)⟩
      · cases g with
        | false => simpa using hh
        | true => cases f with
          | true => exact hh
          | false =>
            obtain ⟨a, len, cap, e1, e2, e3, e4, e5⟩ := hh
            refine ⟨a, len, cap, e1, e2, e3, e4, e5.imp id (fun ⟨blk, off, e6, e7⟩ => ⟨blk, off, e6, fun j y hy => ⟨fr_N true (e7 j y hy).1, (e7 j y hy).2⟩⟩)⟩
    | _ => cases hs
  | a xs => exact h.elim

end

/-! ### the content of a slice -/

section
variable {gl : Nat → Option Row} {w0 : World} {ext : Nat → Nat → Prop} {av : Nat → Prop} {φ : Nat → Option Nat} {st : St} {a : Act} {w : World}

/-- what is read through a slice: its cells -/
structure Reads (c : Cx) (w : World) (v : Value) (r : Row) : Prop where
  sl : ∃ x cap, v = .slice x r.len cap ∧ r.len ≤ cap ∧ ∃ vs, rowVals c w r vs ∧ (vs = [] ∨ ∃ ad : Addr, x = some ad ∧ ad.spot = none ∧ ∀ j u, vs[j]? = some u → w.cell? (ad.add j) = some u)

theorem addr_add (b o j : Nat) : (⟨b, o, none⟩ : Addr).add j = ⟨b, o + j, none⟩ := by unfold Addr.add; split <;> simp_all

theorem rowVals_nil {c : Cx} {w : World} {r : Row} (h : r.len = 0) (hok : okR r) (h1 : r.esz = 1) : rowVals c w r [] := by
  cases r with
  | u wd xs => have := List.eq_nil_of_length_eq_zero h; subst this; exact ⟨hok, rfl⟩
  | i xs => have := List.eq_nil_of_length_eq_zero h; subst this; exact ⟨rfl, fun x hx => by cases hx⟩
  | s xs => have := List.eq_nil_of_length_eq_zero h; subst this; trivial
  | b f xs => have := List.eq_nil_of_length_eq_zero h; subst this; trivial
  | a xs => simp [Row.esz] at h1

theorem reads_sl {c : Cx} {fr : Bool} {v : Value} {r : Row} (h : slR w c fr v r) (h1 : r.esz = 1) : Reads c w v r := by
  obtain ⟨x, len, cap, rfl, rfl, hc, hl, hok, hr⟩ := h
  refine ⟨x, cap, rfl, hc, ?_⟩
  rcases hr with hr | ⟨blk, off, rfl, hr⟩
  · exact ⟨[], rowVals_nil hr hok h1, .inl rfl⟩
  · obtain ⟨vs, h2, h3⟩ := rowAt_vals hr h1
    exact ⟨vs, h2, .inr ⟨⟨blk, off, none⟩, rfl, rfl, fun j u hu => by rw [addr_add]; exact (h3 j u hu).2⟩⟩

theorem vals_ok {c : Cx} {r : Row} {vs : List Value} (h : rowVals c w r vs) : okR r := by
  cases r with
  | u wd xs => exact h.1
  | _ => trivial

theorem reads_of_vals {c : Cx} {blk off cap len : Nat} {r : Row} {vs : List Value} (h : rowVals c w r vs) (hl : r.len = len) (hc : len ≤ cap)
    (hcell : ∀ j u, vs[j]? = some u → w.cell? ⟨blk, off + j, none⟩ = some u) : Reads c w (.slice (some ⟨blk, off, none⟩) len cap) r :=
  ⟨_, cap, by rw [hl], by rw [hl]; exact hc, vs, h, .inr ⟨_, rfl, rfl, fun j u hu => by rw [addr_add]; exact hcell j u hu⟩⟩

theorem cells_get {b o : Nat} {cur : Array Value} {e : TypeId} {fr : Nat × Nat} (hh : w.heap[b]? = some (.cells cur e fr)) : w.cell? ⟨b, o, none⟩ = cur.toList[o]? := by
  rw [cell_of_row w b o cur e fr hh]; simp

/-- the part of an object at which a pointer points, with its cells -/
theorem sub_cells {c : Cx} {w : World} {cs : List Value} {x s : V} {f o : Nat} (h : CRel c w cs x) (hs : subV x f o = some s) (hrow : ∀ r, x = .row r → f = 0) :
    ∃ pre mid post, cs = pre ++ mid ++ post ∧ pre.length = o ∧ CRel c w mid s ∧ (f ≠ 0 → (∀ r, s ≠ .row r) ∧ (∀ gs, s ≠ .st gs)) ∧
      (∀ s' mid', CRel c w mid' s' → mid'.length = mid.length → (f ≠ 0 → (∀ gs, s' ≠ .st gs) ∧ (∀ r, s' ≠ .row r)) → CRel c w (pre ++ mid' ++ post) (putSub x f s')) := by
  unfold subV at hs
  by_cases hf : f = 0
  · subst hf
    rw [if_pos rfl] at hs
    obtain ⟨ho, hs2⟩ := chk_some hs
    clear hs
    subst ho
    cases hs2
    exact ⟨[], cs, [], by simp, rfl, h, fun hf => absurd rfl hf, fun s' mid' h' _ _ => by simpa [putSub] using h'⟩
  · rw [if_neg hf] at hs
    cases x with
    | st fs =>
      dsimp only at hs
      obtain ⟨ho, hs⟩ := chk_some hs
      obtain ⟨css, rfl, ha⟩ := h
      obtain ⟨j, rfl⟩ : ∃ j, f = j + 1 := ⟨f - 1, by omega⟩
      rw [Nat.add_sub_cancel] at hs ho
      have hget := All2.get ha j s hs
      obtain ⟨mid, hm, hfm⟩ := hget
      have hlt : j < css.length := (List.getElem?_eq_some_iff.1 hm).1
      have hcs : css = css.take j ++ mid :: css.drop (j + 1) := by
        rw [List.getElem?_eq_getElem hlt] at hm
        cases hm
        simp
      have hlen1 : ∀ {v : V} {l : List Value}, FRel c w v l → l.length = v.len1 := by
        intro v l hv
        cases v with
        | agg n r => have := FRel_agg hv; rw [rowVals_len this.1, this.2.1]; rfl
        | u wd x => rw [hv.2]; rfl
        | i n => rw [hv.2]; rfl
        | b x => have : l = [Value.bool x] := hv; rw [this]; rfl
        | s bs => obtain ⟨s, h1, _⟩ := hv; rw [h1]; rfl
        | sl fr r => obtain ⟨s, h1, _⟩ := hv; rw [h1]; rfl
        | nils => have : l = [Value.slice none 0 0] := hv; rw [this]; rfl
        | rp r i => obtain ⟨b, off, h1, _⟩ := hv; rw [h1]; rfl
        | p k f o i => obtain ⟨b, _, h1⟩ := hv; rw [h1]; rfl
        | nilp => have : l = [Value.pointer none] := hv; rw [this]; rfl
        | os k f o i len => obtain ⟨b, cap, _, h1, _⟩ := hv; rw [h1]; rfl
        | gr k len => obtain ⟨a, cap, h1, _⟩ := hv; rw [h1]; rfl
        | row r => exact hv.elim
        | st fs => exact hv.elim
        | tup xs => exact hv.elim
        | clo g caps => exact hv.elim
        | ref f o x => exact hv.elim
        | any => exact hv.elim
      have hsum : ∀ {as : List V} {bs : List (List Value)}, All2 (FRel c w) as bs → bs.flatten.length = sumL (as.map V.len1) := by
        intro as
        induction as with
        | nil => intro bs hb; cases bs with
          | nil => rfl
          | cons _ _ => exact hb.elim
        | cons a as ih => intro bs hb; cases bs with
          | nil => exact hb.elim
          | cons b bs => simp [sumL, hlen1 hb.1]; have := ih hb.2; simpa using this
      refine ⟨(css.take j).flatten, mid, (css.drop (j + 1)).flatten, ?_, ?_, ?_, fun _ => ⟨fun r e => ?_, fun gs e => ?_⟩, ?_⟩
      · conv => lhs; rw [hcs]
        simp
      · rw [hsum (All2_take j ha), ← ho, offs]
      · cases s <;> first | exact hfm | exact hfm.elim
      · subst e; exact hfm.elim
      · subst e; exact hfm.elim
      · intro s' mid' h' hl hne
        obtain ⟨hn1, hn2⟩ := hne (by omega)
        have hf' : FRel c w s' mid' := by
          cases s' with
          | st gs => exact absurd rfl (hn1 gs)
          | row r => exact absurd rfl (hn2 r)
          | _ => exact h'
        simp only [putSub, Nat.add_one_ne_zero, if_false, Nat.add_sub_cancel]
        refine ⟨css.set j mid', ?_, All2.set ha j s' mid' hf'⟩
        conv => rhs; rw [hcs]
        have hjl : (css.take j).length = j := by simp; omega
        rw [List.set_append_right _ _ (by omega)]
        simp [hjl]
    | row r => exact absurd (hrow r rfl) hf
    | _ => cases hs

end
end Go.Vm

/- Reading and writing, against the model. -/
namespace Go.Vm
open Go
set_option linter.unusedVariables false

section
variable {gl : Nat → Option Row} {w0 : World} {ext : Nat → Nat → Prop} {av : Nat → Prop} {φ : Nat → Option Nat} {st : St} {a : Act} {w : World}

theorem rowOf_reads (h : Rel gl w0 ext av φ st a w) {x : V} {r : Row} {v : Value} (hx : rowOf st.mem x = some r) (hv : VRel (cxOf φ st.mem av w0.heap.size) w x v) :
    Reads (cxOf φ st.mem av w0.heap.size) w v r := by
  cases x with
  | sl fr q =>
    obtain ⟨h1, h2⟩ := chk_some (show chk (q.esz = 1) (some q) = some r from hx)
    cases h2
    exact reads_sl (inv_sl hv) h1
  | gr k len =>
    simp only [rowOf] at hx
    cases hm : st.mem k with
    | none => rw [hm] at hx; cases hx
    | some y =>
      rw [hm] at hx
      cases y with
      | row r0 =>
        dsimp only at hx
        obtain ⟨h1, h2⟩ := chk_some hx
        cases h2
        obtain ⟨a', cap, rfl, hlc, hloc⟩ := inv_gr hv
        rcases h.mem k _ hm with ⟨b, cur, e, e1, e2, vs, spare, e3, e4⟩ | ⟨e1, _, r1, e2, e3, vs, spare, e4, e5⟩
        · have hsub := rowVals_sub e4 0 len
          rw [List.drop_zero] at hsub
          rcases hloc with ⟨rfl, rfl⟩ | ⟨b', cur', e', fr, f1, rfl, f3, f4⟩
          · have : len = 0 := by omega
            subst this
            refine ⟨none, 0, by rw [Row.sub_len _ _ _ (by omega)], by rw [Row.sub_len _ _ _ (by omega)]; exact Nat.le_refl _, [], by simpa using hsub, .inl rfl⟩
          · have hbb : b' = b := by have := f1.symm.trans e1; simpa using this
            subst hbb
            refine reads_of_vals hsub (Row.sub_len _ _ _ (by omega)) hlc (fun j u hu => ?_)
            rw [cells_get e2, e3, Nat.zero_add]
            rw [List.getElem?_take] at hu
            split at hu
            · rw [List.getElem?_append_left (List.getElem?_eq_some_iff.1 hu).1]; exact hu
            · cases hu
        · cases e2
          have hl0 : len = 0 := by omega
          subst hl0
          have hvs : vs = [] := by cases vs with
            | nil => rfl
            | cons _ _ => simp at e4
          subst hvs
          have hsub := rowVals_sub e5 0 0
          rcases hloc with ⟨rfl, rfl⟩ | ⟨b', cur', e', fr, f1, rfl, f3, f4⟩
          · exact ⟨none, 0, by rw [Row.sub_len _ _ _ (by simp)], by rw [Row.sub_len _ _ _ (by simp)]; exact Nat.le_refl _, [], by simpa using hsub, .inl rfl⟩
          · have : (none : Option Nat) = some b' := e1.symm.trans f1
            cases this
      | _ => cases hx
  | os k f o i len =>
    simp only [rowOf] at hx
    cases hm : st.mem k with
    | none => rw [hm] at hx; cases hx
    | some y =>
      rw [hm] at hx
      dsimp only at hx
      cases hs : subV y f o with
      | none => rw [hs] at hx; cases hx
      | some s =>
        rw [hs] at hx
        obtain ⟨b, cap, f1, rfl, hlc⟩ := inv_os hv
        have fin : ∀ (mid : List Value) (q : Row) (vs : List Value) (spare : List Value), rowVals (cxOf φ st.mem av w0.heap.size) w q vs → mid = vs ++ spare → i + len ≤ q.len → r = q.sub i len →
            (∀ j u, mid[j]? = some u → w.cell? ⟨b, o + j, none⟩ = some u) → Reads (cxOf φ st.mem av w0.heap.size) w (.slice (some ⟨b, o + i, none⟩) len cap) r := by
          intro mid q vs spare hq hmid hle hr hcell
          subst hr
          refine reads_of_vals (rowVals_sub hq i len) (Row.sub_len _ _ _ hle) hlc (fun j u hu => ?_)
          rw [List.getElem?_take] at hu
          split at hu
          · rw [List.getElem?_drop] at hu
            rw [Nat.add_assoc]
            apply hcell
            rw [hmid, List.getElem?_append_left (List.getElem?_eq_some_iff.1 hu).1]
            exact hu
          · cases hu
        rcases h.mem k _ hm with ⟨b', cur, e, e1, e2, e3⟩ | ⟨e1, _⟩
        · have hbb : b' = b := by have := e1.symm.trans f1; simpa using this
          subst hbb
          have hrow : ∀ r, y = .row r → f = 0 := by
            intro r hr
            subst hr
            by_cases hf : f = 0
            · exact hf
            · simp [subV, hf] at hs
          obtain ⟨pre, mid, post, hc, hp, hmid, _, _⟩ := sub_cells e3 hs hrow
          have hcell : ∀ j u, mid[j]? = some u → w.cell? ⟨b', o + j, none⟩ = some u := by
            intro j u hu
            rw [cells_get e2, hc, List.append_assoc, List.getElem?_append_right (by omega), ← hp, Nat.add_sub_cancel_left, List.getElem?_append_left (List.getElem?_eq_some_iff.1 hu).1]
            exact hu
          cases s with
          | agg n q =>
            obtain ⟨g1, g2⟩ := chk_some hx
            obtain ⟨q1, q2, q3, q4⟩ := FRel_agg (show FRel (cxOf φ st.mem av w0.heap.size) w (.agg n q) mid from hmid)
            exact fin mid q mid [] q1 (by simp) (by omega) (by cases g2; rfl) hcell
          | row q =>
            obtain ⟨g1, g2⟩ := chk_some hx
            obtain ⟨vs, spare, q1, q2⟩ := hmid
            exact fin mid q vs spare q2 q1 g1 (by cases g2; rfl) hcell
          | _ => cases hx
        · have := e1.symm.trans f1; cases this
  | _ => cases hx

theorem flat_VRel {c : Cx} {x : V} {u : Value} (h : FRel c w x [u]) (hn : ∀ n r, x ≠ .agg n r) : VRel c w x u := by
  cases x with
  | agg n r => exact absurd rfl (hn n r)
  | st fs => exact h.elim
  | tup xs => exact h.elim
  | clo g cs => exact h.elim
  | any => exact h.elim
  | row r => exact h.elim
  | ref f o y => exact h.elim
  | _ => exact h

theorem flat_FRel {c : Cx} {x : V} {u : Value} (h : VRel c w x u) (h1 : ∀ n r, x ≠ .agg n r) (h2 : ∀ fs, x ≠ .st fs) (h3 : ∀ xs, x ≠ .tup xs) (h4 : ∀ g cs, x ≠ .clo g cs) (h5 : x ≠ .any) : FRel c w x [u] := by
  cases x with
  | agg n r => exact absurd rfl (h1 n r)
  | st fs => exact absurd rfl (h2 fs)
  | tup xs => exact absurd rfl (h3 xs)
  | clo g cs => exact absurd rfl (h4 g cs)
  | any => exact absurd rfl h5
  | row r => exact h.elim
  | ref f o y => exact h.elim
  | _ => exact h

theorem FRel_len {c : Cx} {w : World} {v : V} {l : List Value} (hv : FRel c w v l) : l.length = v.len1 := by
  cases v with
  | agg n r => have := FRel_agg hv; rw [rowVals_len this.1, this.2.1]; rfl
  | u wd x => rw [hv.2]; rfl
  | i n => rw [hv.2]; rfl
  | b x => have : l = [Value.bool x] := hv; rw [this]; rfl
  | s bs => obtain ⟨s, h1, _⟩ := hv; rw [h1]; rfl
  | sl fr r => obtain ⟨s, h1, _⟩ := hv; rw [h1]; rfl
  | nils => have : l = [Value.slice none 0 0] := hv; rw [this]; rfl
  | rp r i => obtain ⟨b, off, h1, _⟩ := hv; rw [h1]; rfl
  | p k f o i => obtain ⟨b, _, h1⟩ := hv; rw [h1]; rfl
  | nilp => have : l = [Value.pointer none] := hv; rw [this]; rfl
  | os k f o i len => obtain ⟨b, cap, _, h1, _⟩ := hv; rw [h1]; rfl
  | gr k len => obtain ⟨a, cap, h1, _⟩ := hv; rw [h1]; rfl
  | row r => exact hv.elim
  | st fs => exact hv.elim
  | tup xs => exact hv.elim
  | clo g caps => exact hv.elim
  | ref f o x => exact hv.elim
  | any => exact hv.elim

theorem FRel_one {c : Cx} {w : World} {v : V} {l : List Value} (hv : FRel c w v l) : ∀ u ∈ l, u.oneCell' = true := by
  cases v with
  | agg n r => exact rowVals_one (FRel_agg hv).1
  | u wd x => rw [hv.2]; simp [ic, Value.oneCell']
  | i n => rw [hv.2]; simp [ii, Value.oneCell']
  | b x => have : l = [Value.bool x] := hv; rw [this]; simp [Value.oneCell']
  | s bs => obtain ⟨s, h1, _⟩ := hv; rw [h1]; simp [Value.oneCell']
  | sl fr r => obtain ⟨s, h1, x, len, cap, h2, _⟩ := hv; rw [h1, h2]; simp [Value.oneCell']
  | nils => have : l = [Value.slice none 0 0] := hv; rw [this]; simp [Value.oneCell']
  | rp r i => obtain ⟨b, off, h1, _⟩ := hv; rw [h1]; simp [Value.oneCell']
  | p k f o i => obtain ⟨b, _, h1⟩ := hv; rw [h1]; simp [Value.oneCell']
  | nilp => have : l = [Value.pointer none] := hv; rw [this]; simp [Value.oneCell']
  | os k f o i len => obtain ⟨b, cap, _, h1, _⟩ := hv; rw [h1]; simp [Value.oneCell']
  | gr k len => obtain ⟨a, cap, h1, _⟩ := hv; rw [h1]; simp [Value.oneCell']
  | row r => exact hv.elim
  | st fs => exact hv.elim
  | tup xs => exact hv.elim
  | clo g caps => exact hv.elim
  | ref f o x => exact hv.elim
  | any => exact hv.elim

theorem flatten_len {c : Cx} {w : World} : ∀ {as : List V} {bs : List (List Value)}, All2 (FRel c w) as bs → bs.flatten.length = sumL (as.map V.len1)
  | [], [], _ => rfl
  | _ :: _, _ :: _, h => by simp [sumL, FRel_len h.1]; have := flatten_len h.2; simpa using this
  | [], _ :: _, h => h.elim
  | _ :: _, [], h => h.elim

theorem flatten_one {c : Cx} {w : World} : ∀ {as : List V} {bs : List (List Value)}, All2 (FRel c w) as bs → ∀ u ∈ bs.flatten, u.oneCell' = true
  | [], [], _ => by simp
  | _ :: _, _ :: _, h => by
    intro u hu
    simp only [List.flatten_cons, List.mem_append] at hu
    rcases hu with hu | hu
    · exact FRel_one h.1 u hu
    · exact flatten_one h.2 u hu
  | [], _ :: _, h => h.elim
  | _ :: _, [], h => h.elim

theorem map_len1 {c : Cx} {w : World} : ∀ {as : List V} {bs : List (List Value)}, All2 (FRel c w) as bs → bs.map List.length = as.map V.len1
  | [], [], _ => rfl
  | _ :: _, _ :: _, h => by simp [FRel_len h.1]; exact map_len1 h.2
  | [], _ :: _, h => h.elim
  | _ :: _, [], h => h.elim

/-! ### types -/

variable {P : Program} {t m : Nat} {ty : Ty}

theorem isAgg_run (h : tyOf P m t = some ty) (w : World) : (isAgg t).run P w = .ok (!ty.flat) w := by
  obtain ⟨n, hd⟩ := tyOf_desc h
  cases ty with
  | b => simp [isAgg, run_underlying (show P.underlying t = _ from hd), Ty.flat]
  | u wd => simp [isAgg, run_underlying hd.2, Ty.flat]
  | i => simp [isAgg, run_underlying (show P.underlying t = _ from hd), Ty.flat]
  | s => simp [isAgg, run_underlying (show P.underlying t = _ from hd), Ty.flat]
  | p => obtain ⟨e, hd⟩ := hd; simp [isAgg, run_underlying hd, Ty.flat]
  | sl ty => obtain ⟨e, hd, _⟩ := hd; simp [isAgg, run_underlying hd, Ty.flat]
  | arr k ty => obtain ⟨e, hd, _⟩ := hd; simp [isAgg, run_underlying hd, Ty.flat]
  | st ts => obtain ⟨e, hd, _⟩ := hd; simp [isAgg, run_underlying hd, Ty.flat]
  | o => exact hd.elim

theorem sizeOf_run (h : tyOf P m t = some ty) (w : World) : (sizeOf t).run P w = .ok ty.size w := by
  obtain ⟨i, h1, h2, _⟩ := tyOf_info h
  simp [sizeOf, typeInfo, h1, h2]

theorem load_flat (h : tyOf P m t = some ty) (hf : ty.flat = true) {ad : Addr} {u : Value} (hc : w.cell? ad = some u) : (loadVar t ad).run P w = .ok u w := by
  simp [loadVar, isAgg_run h, hf, hc]

theorem load_agg (h : tyOf P m t = some ty) (hf : ty.flat = false) {ad : Addr} {vs : List Value} (hl : vs.length = ty.size) (hc : ∀ j u, vs[j]? = some u → w.cell? (ad.add j) = some u) :
    (loadVar t ad).run P w = .ok (.agg vs.toArray) w := by
  have := run_loadCells_list (P := P) w ad vs hc
  rw [hl] at this
  simp [loadVar, isAgg_run h, hf, sizeOf_run h, this]

theorem not_agg_of_get {r : Row} {j : Nat} {v : V} (h : r.get j = some v) (h1 : r.esz = 1) : ∀ n q, v ≠ .agg n q := by
  intro n q e
  subst e
  cases r <;> simp [Row.get] at h

theorem CRel_flat {c : Cx} {s : V} {mid : List Value} (h : CRel c w mid s) (h1 : ∀ fs, s ≠ .st fs) (h2 : ∀ r, s ≠ .row r) : FRel c w s mid := by
  cases s with
  | st fs => exact absurd rfl (h1 fs)
  | row r => exact absurd rfl (h2 r)
  | _ => exact h

/-- what is read off an object is what a load reads -/
theorem rd_sound {c : Cx} {s v : V} {i : Nat} {mid : List Value} {b off : Nat} (hty : tyOf P m t = some ty) (h : CRel c w mid s) (hx : rd ty s i = some v)
    (hcell : ∀ j u, mid[j]? = some u → w.cell? ⟨b, off + j, none⟩ = some u) :
    ∃ u, (loadVar t ⟨b, off + i, none⟩).run P w = .ok u w ∧ VRel c w v u := by
  have sub : ∀ (vs : List Value) (k : Nat), (∀ j u, vs[j]? = some u → mid[i + j]? = some u) → ∀ j u, vs[j]? = some u → w.cell? ((⟨b, off + i, none⟩ : Addr).add j) = some u := by
    intro vs k hvs j u hu
    rw [addr_add, Nat.add_assoc]
    exact hcell _ _ (hvs j u hu)
  cases s with
  | agg n r =>
    obtain ⟨h1, h2, h3, h4⟩ := FRel_agg (show FRel c w (.agg n r) mid from h)
    simp only [rd] at hx
    have flatcase : ty.flat = true → chk (i < n) (r.get i) = some v → ∃ u, (loadVar t ⟨b, off + i, none⟩).run P w = .ok u w ∧ VRel c w v u := by
      intro hf hx
      obtain ⟨g1, g2⟩ := chk_some hx
      obtain ⟨u, k1, k2, k3⟩ := rowVals_get h1 (by omega) g2
      exact ⟨u, load_flat hty hf (hcell i u k1), k2⟩
    cases ty with
    | arr k e =>
      dsimp only at hx
      by_cases hc : i = 0 ∧ k * e.size = n
      · rw [if_pos hc] at hx
        cases hx
        obtain ⟨rfl, hn⟩ := hc
        refine ⟨.agg mid.toArray, load_agg hty rfl (by rw [rowVals_len h1, h2]; exact hn.symm) (sub mid 0 (by simp)), mid.toArray, rfl, h⟩
      · rw [if_neg hc] at hx
        obtain ⟨g1, g2⟩ := chk_some hx
        cases g2
        have hlm := rowVals_len h1
        refine ⟨.agg ((mid.drop i).take (k * e.size)).toArray, load_agg hty rfl (by simp [Ty.size]; omega) (sub _ 0 ?_), _, rfl, ?_⟩
        · intro j u hu
          rw [List.getElem?_take] at hu
          split at hu
          · rw [List.getElem?_drop] at hu; exact hu
          · cases hu
        · exact agg_of_vals (rowVals_sub h1 i _) (Row.sub_len _ _ _ (by omega)) (Row.sub_kind i _ h4)
    | st ts => cases hx
    | b => exact flatcase rfl hx
    | u wd => exact flatcase rfl hx
    | i => exact flatcase rfl hx
    | s => exact flatcase rfl hx
    | sl e => exact flatcase rfl hx
    | p => exact flatcase rfl hx
    | o => exact flatcase rfl hx
  | row r =>
    simp only [rd] at hx
    obtain ⟨⟨g1, g2⟩, g3⟩ := chk_some hx
    obtain ⟨vs, spare, rfl, h1⟩ := h
    obtain ⟨u, k1, k2, k3⟩ := rowVals_get h1 g2 g3
    exact ⟨u, load_flat hty g1 (hcell i u (by rw [List.getElem?_append_left (List.getElem?_eq_some_iff.1 k1).1]; exact k1)), k2⟩
  | st fs =>
    simp only [rd] at hx
    obtain ⟨⟨rfl, g2⟩, g3⟩ := chk_some hx
    cases g3
    obtain ⟨css, rfl, h1⟩ := h
    cases ty with
    | st ts =>
      simp [fits] at g2
      refine ⟨.agg css.flatten.toArray, load_agg hty rfl (by rw [flatten_len h1]; exact g2.symm) (sub _ 0 (by simp)), css.flatten.toArray, css, rfl, by simp, h1⟩
    | _ => simp [fits] at g2
  | tup xs => exact h.elim
  | clo g cs => exact h.elim
  | any => exact h.elim
  | ref f o y => exact h.elim
  | _ =>
    simp only [rd] at hx
    obtain ⟨⟨rfl, g2⟩, g3⟩ := chk_some hx
    cases g3
    have hf := CRel_flat h (by intro fs; simp) (by intro r; simp)
    have hlen := FRel_len hf
    simp only [V.len1] at hlen
    obtain ⟨u, rfl⟩ := List.length_eq_one_iff.1 hlen
    refine ⟨u, load_flat hty ?_ (hcell 0 u rfl), flat_VRel hf (by intro n r; simp)⟩
    cases ty <;> simp_all [fits, Ty.flat]

end
end Go.Vm

/- The operations, one by one, against the model. -/
namespace Go.Vm
open Go
set_option linter.unusedVariables false

section
variable {c : Cx} {w : World}

theorem splL_one {α : Type} (xs : List α) (i : Nat) (y : α) (h : i < xs.length) : splL xs i [y] = xs.set i y := by
  simp only [splL, List.length_singleton]
  rw [List.set_eq_take_append_cons_drop, if_pos h]
  simp

theorem splL_all {α : Type} (xs ys : List α) (h : ys.length = xs.length) : splL xs 0 ys = ys := by
  simp [splL, h]

theorem splL_append {α : Type} (a b : List α) (i : Nat) (ys : List α) (h : i + ys.length ≤ a.length) : splL (a ++ b) i ys = splL a i ys ++ b := by
  simp only [splL]
  rw [List.take_append_of_le_length (by omega), List.drop_append_of_le_length h]
  simp

theorem flat_facts {v : V} {u : Value} (hf : v.isFlat = true) (hv : VRel c w v u) : FRel c w v [u] ∧ v.vlen = 1 ∧ u.cells.toList = [u] ∧ CRel c w [u] v ∧ (∀ r, v ≠ .row r) ∧ (∀ fs, v ≠ .st fs) := by
  have one : ∀ {u : Value}, u.oneCell' = true → u.cells.toList = [u] := by
    intro u hu
    cases u <;> first | rfl | cases hu
  have key : FRel c w v [u] ∧ v.vlen = 1 ∧ CRel c w [u] v ∧ (∀ r, v ≠ .row r) ∧ (∀ fs, v ≠ .st fs) := by
    cases v <;> first | (cases hf; done) | exact ⟨hv, rfl, hv, fun r => by simp, fun fs => by simp⟩
  exact ⟨key.1, key.2.1, one (FRel_one key.1 u (by simp)), key.2.2⟩

theorem set_kind {r r' : Row} {i : Nat} {v : V} (hs : r.set i v = some r') (h4 : (∃ wd xs, r = .u wd xs) ∨ ∃ xs, r = .i xs) : (∃ wd xs, r' = .u wd xs) ∨ ∃ xs, r' = .i xs := by
  unfold Row.set at hs
  split at hs
  · split at hs
    · cases hs; exact .inl ⟨_, _, rfl⟩
    · cases hs
  · cases hs; exact .inr ⟨_, rfl⟩
  · cases hs

theorem wr_sound {s s' v : V} {i : Nat} {u : Value} {mid : List Value} (h : CRel c w mid s) (hx : wr s i v = some s') (hv : VRel c w v u) :
    (∀ x ∈ u.cells.toList, x.oneCell' = true) ∧ u.cells.toList.length = v.vlen ∧ i + u.cells.toList.length ≤ mid.length ∧ CRel c w (splL mid i u.cells.toList) s' ∧
      ((∀ r, s ≠ .row r) → (∀ fs, s ≠ .st fs) → (∀ r, s' ≠ .row r) ∧ (∀ fs, s' ≠ .st fs)) := by
  unfold wr at hx
  split at hx
  · rename_i s n r
    obtain ⟨h1, h2, h3, h4⟩ := FRel_agg (show FRel c w (.agg n r) mid from h)
    have hlm := rowVals_len h1
    split at hx
    · rename_i v m q
      obtain ⟨cs, rfl, hq⟩ := hv
      obtain ⟨q1, q2, q3, q4⟩ := FRel_agg hq
      have hlq := rowVals_len q1
      refine ⟨rowVals_one q1, by show cs.toList.length = _; rw [hlq, q2]; rfl, ?_⟩
      show i + cs.toList.length ≤ mid.length ∧ CRel c w (splL mid i cs.toList) s' ∧ _
      by_cases hc : i = 0 ∧ m = n
      · rw [if_pos hc] at hx
        cases hx
        obtain ⟨rfl, rfl⟩ := hc
        refine ⟨by omega, ?_, fun _ _ => ⟨by intro r; simp, by intro fs; simp⟩⟩
        rw [splL_all _ _ (by omega)]
        exact hq
      · rw [if_neg hc] at hx
        obtain ⟨g1, g2⟩ := chk_some hx
        cases hs : r.splice i q with
        | none => rw [hs] at g2; cases g2
        | some r' =>
          rw [hs] at g2
          cases g2
          obtain ⟨k1, k2, k3⟩ := rowVals_splice h1 q1 hs (by omega)
          exact ⟨by omega, agg_of_vals k1 (by omega) k3, fun _ _ => ⟨by intro r; simp, by intro fs; simp⟩⟩
    · obtain ⟨⟨gf, g1⟩, g2⟩ := chk_some hx
      obtain ⟨f1, f2, f3, f4, f5⟩ := flat_facts gf hv
      rw [f3, f2]
      cases hs : r.set i v with
      | none => rw [hs] at g2; cases g2
      | some r' =>
        rw [hs] at g2
        cases g2
        obtain ⟨k1, k2, k3⟩ := rowVals_set h1 hs hv
        refine ⟨by simpa using k3, rfl, by simp; omega, ?_, fun _ _ => ⟨by intro r; simp, by intro fs; simp⟩⟩
        rw [splL_one _ _ _ (by omega)]
        exact agg_of_vals k1 (by omega) (set_kind hs h4)
  · rename_i s r
    obtain ⟨vs, spare, rfl, h1⟩ := h
    have hlm := rowVals_len h1
    obtain ⟨⟨gf, g1⟩, g2⟩ := chk_some hx
    obtain ⟨f1, f2, f3, f4, f5⟩ := flat_facts gf hv
    rw [f3, f2]
    cases hs : r.set i v with
    | none => rw [hs] at g2; cases g2
    | some r' =>
      rw [hs] at g2
      cases g2
      obtain ⟨k1, k2, k3⟩ := rowVals_set h1 hs hv
      refine ⟨by simpa using k3, rfl, by simp; omega, ?_, fun hr => absurd rfl (hr r)⟩
      rw [splL_append _ _ _ _ (by simp; omega), splL_one _ _ _ (by omega)]
      exact ⟨_, spare, rfl, k1⟩
  · rename_i s fs
    split at hx
    · rename_i v gs
      obtain ⟨cs, css, rfl, hcs, hgs⟩ := hv
      obtain ⟨css0, rfl, hfs⟩ := h
      obtain ⟨⟨rfl, g1⟩, g2⟩ := chk_some hx
      cases g2
      show (∀ x ∈ cs.toList, _) ∧ cs.toList.length = _ ∧ 0 + cs.toList.length ≤ _ ∧ CRel c w (splL css0.flatten 0 cs.toList) (.st gs) ∧ _
      rw [hcs]
      have l1 := flatten_len hgs
      have l0 := flatten_len hfs
      have hll : css.flatten.length = css0.flatten.length := by rw [l1, l0, g1]
      refine ⟨flatten_one hgs, l1, by omega, ?_, fun _ h2 => absurd rfl (h2 fs)⟩
      rw [splL_all _ _ hll]
      exact ⟨css, rfl, hgs⟩
    · cases hx
  · obtain ⟨⟨gs, gf, rfl⟩, g2⟩ := chk_some hx
    cases g2
    obtain ⟨f1, f2, f3, f4, f5⟩ := flat_facts gf hv
    rw [f3, f2]
    have hn : (∀ fs, s ≠ .st fs) ∧ (∀ r, s ≠ .row r) ∧ s.len1 = 1 := by cases s <;> first | (cases gs; done) | exact ⟨fun fs => by simp, fun r => by simp, rfl⟩
    have hf := CRel_flat h hn.1 hn.2.1
    have hlen := FRel_len hf
    rw [hn.2.2] at hlen
    obtain ⟨x, rfl⟩ := List.length_eq_one_iff.1 hlen
    refine ⟨FRel_one f1, rfl, by simp, ?_, fun _ _ => f5⟩
    rw [splL_all [x] [u] rfl]
    exact f4

end

/-! ### operands -/

section
variable {gl : Nat → Option Row} {w0 : World} {ext : Nat → Nat → Prop} {av : Nat → Prop} {φ : Nat → Option Nat} {st st' : St} {a : Act} {w : World}

theorem ic_of_int {wd : Nat} {n : Int} (h0 : 0 ≤ n) (h : n < (2 ^ wd : Nat)) : Value.int (kw wd) n = ic wd (BitVec.ofInt wd n) := by
  unfold ic
  congr 1
  rw [BitVec.toNat_ofInt]
  rw [Int.emod_eq_of_lt h0 h]
  omega

theorem constV_sound {c : Cx} {v : V} {u : Value} (h : constV u = some v) : VRel c w v u := by
  unfold constV at h
  split at h
  · rename_i n; obtain ⟨⟨h1, h2⟩, h3⟩ := chk_some h; cases h3; exact ⟨.inl rfl, by rw [← ic_of_int h1 h2]; rfl⟩
  · rename_i n; obtain ⟨⟨h1, h2⟩, h3⟩ := chk_some h; cases h3; exact ⟨.inr (.inl rfl), by rw [← ic_of_int h1 h2]; rfl⟩
  · rename_i n; obtain ⟨⟨h1, h2⟩, h3⟩ := chk_some h; cases h3; exact ⟨.inr (.inr (.inl rfl)), by rw [← ic_of_int h1 h2]; rfl⟩
  · rename_i n; obtain ⟨⟨h1, h2⟩, h3⟩ := chk_some h; cases h3; exact ⟨.inr (.inr (.inr rfl)), by rw [← ic_of_int h1 h2]; rfl⟩
  · rename_i n; obtain ⟨⟨h1, h2⟩, h3⟩ := chk_some h; cases h3; exact ⟨⟨h1, h2⟩, rfl⟩
  · cases h; rfl
  · rename_i s; obtain ⟨h1, h3⟩ := chk_some h; cases h3
    exact ⟨s, rfl, rfl, by simp [bytesOf, LIM]; have : s.data.size = s.size := rfl; omega⟩
  · cases h; rfl
  · cases h; rfl
  · rename_i vs; obtain ⟨h1, h3⟩ := chk_some h; cases h3; exact ⟨vs, rfl, by rw [show vs.toList = [] from List.eq_nil_of_length_eq_zero (by simpa using h1)]; trivial⟩
  · cases h

theorem opnd_sound {Γ : Ctx} (hgl : Γ.gl = gl) (h : Rel gl w0 ext av φ st a w) {x : Operand} {v : V} (hx : opnd Γ st.env x = some v) : VRel (cxOf φ st.mem av w0.heap.size) w v (a.eval x) := by
  cases x with
  | tmp t => exact h.env t v hx
  | const u => exact constV_sound hx
  | global g =>
    simp only [opnd, hgl] at hx
    cases hg : gl g with
    | none => rw [hg] at hx; cases hx
    | some r => rw [hg] at hx; cases hx; exact ⟨g, 0, by simp [Act.eval], h.glob g r hg⟩
  | func f => cases hx; exact ⟨#[], rfl, trivial⟩

theorem mapO_all2 {α β γ : Type} {f : α → Option β} {g : α → γ} {R : β → γ → Prop} (hR : ∀ a b, f a = some b → R b (g a)) : ∀ {as : List α} {bs : List β}, mapO f as = some bs → All2 R bs (as.map g)
  | [], bs, h => by cases h; trivial
  | a :: as, bs, h => by
    simp only [mapO] at h
    cases ha : f a with
    | none => rw [ha] at h; cases h
    | some b =>
      rw [ha] at h
      cases hm : mapO f as with
      | none => rw [hm] at h; cases h
      | some bs' => rw [hm] at h; cases h; exact ⟨hR a b ha, mapO_all2 hR hm⟩

theorem args_sound {Γ : Ctx} (hgl : Γ.gl = gl) (h : Rel gl w0 ext av φ st a w) {op : Op} {args : List V} (hx : argsOf Γ st.env op = some args) :
    All2 (VRel (cxOf φ st.mem av w0.heap.size) w) args (op.operands.toList.map a.eval) := mapO_all2 (fun x v hv => opnd_sound hgl h hv) hx

theorem restr_some {ks : List Nat} {m : Nat → Option V} {k : Nat} {x : V} (h : restr ks m k = some x) : m k = some x := by
  unfold restr at h
  exact (chk_some h).2

theorem rowOf_restr {ks : List Nat} {m : Nat → Option V} {x : V} {r : Row} (h : rowOf (restr ks m) x = some r) : rowOf m x = some r := by
  cases x with
  | sl fr q => exact h
  | gr k len =>
    simp only [rowOf] at h ⊢
    cases hk : restr ks m k with
    | none => rw [hk] at h; cases h
    | some y => rw [hk] at h; rw [restr_some hk]; exact h
  | os k f o i len =>
    simp only [rowOf] at h ⊢
    cases hk : restr ks m k with
    | none => rw [hk] at h; cases h
    | some y => rw [hk] at h; rw [restr_some hk]; exact h
  | _ => exact h

end

/-- an operation that runs through, and the state behind it -/
def Runs (P : Program) (gl : Nat → Option Row) (w0 : World) (ext : Nat → Nat → Prop) (av : Nat → Prop) (st' : St) (o : Oper) (a : Act) (w : World) : Prop :=
  ∃ φ' u w', ((execOp a.eval o).run P w = .ok (.value u) w' ∨ ((execOp a.eval o).run P w = .ok .skip w' ∧ u = undef)) ∧ Rel gl w0 ext av φ' st' (a.put o.dst u) w'

section
variable {P : Program} {gl : Nat → Option Row} {w0 : World} {ext : Nat → Nat → Prop} {av : Nat → Prop} {φ : Nat → Option Nat} {st st' : St} {a : Act} {w : World} {o : Oper} {fn : Nat → Option FSpec}

theorem Runs.wp (h : Runs P gl w0 ext av st' o a w) {K : Act → World → Prop} {Q : Exit → Act → World → Prop} (hK : ∀ φ' a' w', Rel gl w0 ext av φ' st' a' w' → K a' w') : o.wp P a w K Q := by
  obtain ⟨φ', u, w', hr, hrel⟩ := h
  unfold Oper.wp
  rcases hr with hr | ⟨hr, rfl⟩
  · rw [hr]; exact hK _ _ _ hrel
  · rw [hr]; exact hK _ _ _ hrel

theorem runs_pure (h : Rel gl w0 ext av φ st a w) {v : V} {u : Value} (hs : st.after o.dst { v := v } = some st') (hr : (execOp a.eval o).run P w = .ok (.value u) w)
    (hv : VRel (cxOf φ st.mem av w0.heap.size) w v u) : Runs P gl w0 ext av st' o a w := ⟨φ, u, w, .inl hr, h.after_pure hs hv⟩

end
end Go.Vm

/- The operations that only reckon or read. -/
namespace Go.Vm
open Go
set_option linter.unusedVariables false

theorem okU_iff {w : Nat} : okU w = true ↔ okW w := by simp [okU, okW, or_assoc]

section
variable {P : Program} {c : Cx} {w : World}

theorem run_eqGuard_plain (op : BinOp) (t : Nat) (x y : Operand) (a b : Value) (h1 : ∀ cs, a ≠ .agg cs) (h2 : a ≠ .nilIface) : (eqGuard op t x y a b).run P w = .ok () w := by
  unfold eqGuard
  cases op <;> first | rfl | (cases a <;> first | rfl | exact absurd rfl h2 | (rename_i cs; exact absurd rfl (h1 cs)) | (cases b <;> rfl))

theorem amount_sound {y : V} {n : Nat} {u : Value} (h : amount y = some n) (hv : VRel c w y u) : ∃ k m, u = .int k m ∧ 0 ≤ m ∧ m.toNat = n := by
  cases y with
  | u wd x => cases h; obtain ⟨_, rfl⟩ := inv_u hv; exact ⟨_, _, rfl, by omega, by omega⟩
  | i m => obtain ⟨h1, h2⟩ := chk_some h; cases h2; obtain ⟨_, rfl⟩ := inv_i hv; exact ⟨_, _, rfl, h1, rfl⟩
  | _ => cases h

theorem run_shU {wd : Nat} (hw : okW wd) (op : BinOp) (t : Nat) (x : BitVec wd) (k : IntKind) (m : Int) (v : V) (hm : 0 ≤ m) (h : shU op x m.toNat = some v) :
    ∃ u, (binOp op t (ic wd x) (.int k m)).run P w = .ok u w ∧ VRel c w v u := by
  have hx := x.isLt
  cases op <;> simp only [shU, Option.some.injEq] at h
  case shl =>
    subst h
    refine ⟨ic wd (x <<< m.toNat), ?_, hw, rfl⟩
    simp only [binOp, ic, Op.shift, if_neg (show ¬ m < 0 by omega), Sem.run_pure, kw_bits hw, kw_wrap hw, BitVec.toNat_shiftLeft, Nat.shiftLeft_eq]
    congr 2
    have e : ((x.toNat : Int) * 2 ^ min m.toNat wd) % ((2 ^ wd : Nat) : Int) = ((x.toNat * 2 ^ min m.toNat wd % 2 ^ wd : Nat) : Int) := by simp
    rw [e]
    congr 1
    by_cases hlt : m.toNat ≤ wd
    · rw [Nat.min_eq_left hlt]
    · rw [Nat.min_eq_right (by omega)]
      have : 2 ^ m.toNat = 2 ^ wd * 2 ^ (m.toNat - wd) := by rw [← Nat.pow_add]; congr 1; omega
      rw [this, Nat.mul_mod_left, ← Nat.mul_assoc, Nat.mul_right_comm, Nat.mul_mod_left]
  case shr =>
    subst h
    refine ⟨ic wd (x >>> m.toNat), ?_, hw, rfl⟩
    simp only [binOp, ic, Op.shift, if_neg (show ¬ m < 0 by omega), Sem.run_pure, kw_bits hw, BitVec.toNat_ushiftRight, Nat.shiftRight_eq_div_pow]
    congr 2
    rw [Int.fdiv_eq_ediv_of_nonneg _ (by exact_mod_cast Nat.zero_le _)]
    have e : (x.toNat : Int) / 2 ^ min m.toNat wd = ((x.toNat / 2 ^ min m.toNat wd : Nat) : Int) := by simp
    rw [e]
    congr 1
    by_cases hlt : m.toNat ≤ wd
    · rw [Nat.min_eq_left hlt]
    · rw [Nat.min_eq_right (by omega), Nat.div_eq_of_lt hx, Nat.div_eq_of_lt]
      exact Nat.lt_of_lt_of_le hx (Nat.pow_le_pow_right (by omega) (by omega))
  all_goals (cases h)

theorem bytesOf_inj {s t : ByteArray} : bytesOf s = bytesOf t ↔ s.toList = t.toList := by
  rw [ByteArray.toList_eq, ByteArray.toList_eq]
  unfold bytesOf
  constructor
  · intro h
    exact List.map_inj_right (fun x y e => UInt8.toBitVec_inj.1 e) |>.1 h
  · intro h; rw [h]

theorem run_string_eq {a b : Bytes} {s t : ByteArray} (h1 : bytesOf s = a) (h2 : bytesOf t = b) : (s.toList == t.toList) = decide (a = b) := by
  rw [Bool.eq_iff_iff]
  simp only [beq_iff_eq, decide_eq_true_eq]
  rw [← h1, ← h2]
  exact bytesOf_inj.symm

theorem bytesOf_append (s t : ByteArray) : bytesOf (s ++ t) = bytesOf s ++ bytesOf t := by
  simp [bytesOf]

theorem bytesOf_len (s : ByteArray) : (bytesOf s).length = s.size := by simp [bytesOf]

theorem run_eqItems {wd : Nat} {kk : IntKind} (e : Nat) (d : Nat) (he : P.underlying e = some (.int kk)) : ∀ (n k : Nat) (xs ys : List (BitVec wd)), xs.length = k + n → ys.length = k + n → xs.take k = ys.take k →
    (Op.eqItems (d + 1) e 1 (xs.map (ic wd)).toArray (ys.map (ic wd)).toArray (List.range' k n)).run P w = .ok (decide (xs = ys)) w
  | 0, k, xs, ys, h1, h2, h3 => by
    rw [List.take_of_length_le (by omega), List.take_of_length_le (by omega)] at h3
    simp [Op.eqItems, h3]
  | n + 1, k, xs, ys, h1, h2, h3 => by
    have hx : k < xs.length := by omega
    have hy : k < ys.length := by omega
    have hagg : (isAgg e).run P w = .ok false w := by simp [isAgg, run_underlying he]
    have p1 : ∀ zs : List (BitVec wd), (hz : k < zs.length) → (part e (zs.map (ic wd)).toArray (k * 1)).run P w = .ok (ic wd zs[k]) w := by
      intro zs hz
      simp [part, hagg, hz]
    have heq : (Op.equalIn (d + 1) e (ic wd xs[k]) (ic wd ys[k])).run P w = .ok (decide (xs[k] = ys[k])) w := by
      rw [ic, ic, run_equalIn_int w d e _ _ _ _ he, beq_toNat]
    rw [List.range'_succ]
    simp only [Op.eqItems, Sem.run_bind, p1 xs hx, p1 ys hy, heq, Result.andThen_ok]
    by_cases hk : xs[k] = ys[k]
    · simp only [hk, decide_true, Bool.not_true, Bool.false_eq_true, if_false]
      exact run_eqItems e d he n (k + 1) xs ys (by omega) (by omega) (by
        rw [List.take_succ_eq_append_getElem hx, List.take_succ_eq_append_getElem hy, h3, hk])
    · have : ¬ xs = ys := fun e => hk (by subst e; rfl)
      simp [hk, this]

theorem run_agg_eq {wd n t e : Nat} {kk : IntKind} {xs ys : List (BitVec wd)} (ht : P.underlying t = some (.array n e)) (he : P.underlying e = some (.int kk)) (hsz : (P.info? e).map (·.size) = some 1)
    (hg : P.eqGuardType P.depth t = false) (h1 : xs.length = n) (h2 : ys.length = n) (x y : Operand) (op : BinOp) (hop : op = .eql ∨ op = .neq) :
    (do eqGuard op t x y (.agg (xs.map (ic wd)).toArray) (.agg (ys.map (ic wd)).toArray); binOp op t (.agg (xs.map (ic wd)).toArray) (.agg (ys.map (ic wd)).toArray) : Sem Value).run P w =
      .ok (.bool (if op = .eql then decide (xs = ys) else !decide (xs = ys))) w := by
  obtain ⟨i, hi⟩ : ∃ i, P.info? e = some i := by
    cases hq : P.info? e with
    | none => rw [hq] at hsz; cases hsz
    | some i => exact ⟨i, rfl⟩
  have hc : P.cellsOf e = 1 := by rw [hi] at hsz; simp at hsz; simp [Program.cellsOf, hi, hsz]
  have heq : (Op.equalIn 10000 t (.agg (xs.map (ic wd)).toArray) (.agg (ys.map (ic wd)).toArray)).run P w = .ok (decide (xs = ys)) w := by
    rw [run_equalIn_array w 9999 _ _ ht hi, hc, List.range_eq_range']
    exact run_eqItems e 9998 he n 0 xs ys (by omega) (by omega) (by simp)
  rw [Sem.run_bind, run_eqGuard_agg w op t x y _ _ hg, Result.andThen_ok]
  rcases hop with rfl | rfl
  · rw [run_eql_struct, heq]; simp
  · rw [run_neq_struct, heq]; simp

theorem run_eqIn_p {t e : Nat} (d : Nat) (h : P.underlying t = some (.pointer e)) (a : Addr) : (Op.equalIn (d + 1) t (.pointer (some a)) (.pointer none)).run P w = .ok false w := by
  simp [Op.equalIn, run_underlying h]
theorem run_eqIn_n {t e : Nat} (d : Nat) (h : P.underlying t = some (.pointer e)) : (Op.equalIn (d + 1) t (.pointer none) (.pointer none)).run P w = .ok true w := by
  simp [Op.equalIn, run_underlying h]

/-- two operands -/
theorem aBin_sound {Γ : Ctx} {P : Program} (hty : Γ.ty = tyOf P 8) {op : BinOp} {t : Nat} {x y v : V} {u1 u2 : Value} {ox oy : Operand} (h : aBin Γ op t x y = some v) (hx : VRel c w x u1) (hy : VRel c w y u2) :
    ∃ u, (do eqGuard op t ox oy u1 u2; binOp op t u1 u2 : Sem Value).run P w = .ok u w ∧ VRel c w v u := by
  have plain : (∀ cs, u1 ≠ .agg cs) → u1 ≠ .nilIface → ∀ {u}, (binOp op t u1 u2).run P w = .ok u w → (do eqGuard op t ox oy u1 u2; binOp op t u1 u2 : Sem Value).run P w = .ok u w := by
    intro h1 h2 u hu
    rw [Sem.run_bind, run_eqGuard_plain op t ox oy u1 u2 h1 h2, Result.andThen_ok, hu]
  unfold aBin at h
  by_cases hsh : isSh op = true
  · rw [if_pos hsh] at h
    split at h
    · rename_i x wd a
      obtain ⟨hw, rfl⟩ := inv_u hx
      cases ha : amount y with
      | none => rw [ha] at h; cases h
      | some n =>
        rw [ha] at h
        obtain ⟨k, m, rfl, hm, rfl⟩ := amount_sound ha hy
        obtain ⟨u, hu, hv⟩ := run_shU (P := P) (c := c) hw op t a k m v hm h
        exact ⟨u, plain (by intro cs; simp [ic]) (by simp [ic]) hu, hv⟩
    · rename_i x a
      obtain ⟨hr, rfl⟩ := inv_i hx
      split at h
      · cases ha : amount y with
        | none => rw [ha] at h; cases h
        | some n =>
          rw [ha] at h
          obtain ⟨k, m, rfl, hm, rfl⟩ := amount_sound ha hy
          obtain ⟨⟨h1, h2⟩, h3⟩ := chk_some h
          obtain ⟨h4, rfl⟩ := chkI_some h3
          refine ⟨_, plain (by intro cs; simp [ii]) (by simp [ii]) (u := ii (a * ((2 ^ m.toNat : Nat) : Int))) ?_, h4, rfl⟩
          have e : (a * 2 ^ min m.toNat 64) = a * ((2 ^ m.toNat : Nat) : Int) := by rw [Nat.min_eq_left (by omega)]; simp
          simp only [binOp, ii, Op.shift, if_neg (show ¬ m < 0 by omega), Sem.run_pure, IntKind.bits, e, wrap_in h4]
      · cases ha : amount y with
        | none => rw [ha] at h; cases h
        | some n =>
          rw [ha] at h
          obtain ⟨k, m, rfl, hm, rfl⟩ := amount_sound ha hy
          obtain ⟨⟨h1, h2⟩, h3⟩ := chk_some h
          cases h3
          have h4 : inR (a / ((2 ^ m.toNat : Nat) : Int)) := by
            have hp : (0 : Int) < ((2 ^ m.toNat : Nat) : Int) := by exact_mod_cast Nat.two_pow_pos m.toNat
            have q1 : 0 ≤ a / ((2 ^ m.toNat : Nat) : Int) := Int.ediv_nonneg h1 (Int.le_of_lt hp)
            have q2 := Int.ediv_le_self ((2 ^ m.toNat : Nat) : Int) h1
            unfold inR at *
            omega
          refine ⟨_, plain (by intro cs; simp [ii]) (by simp [ii]) (u := ii (a / ((2 ^ m.toNat : Nat) : Int))) ?_, h4, rfl⟩
          have e : a.fdiv (2 ^ min m.toNat 64) = a / ((2 ^ m.toNat : Nat) : Int) := by
            rw [Nat.min_eq_left (by omega), show ((2 : Int) ^ m.toNat) = ((2 ^ m.toNat : Nat) : Int) by simp, Int.fdiv_eq_ediv_of_nonneg _ (Int.natCast_nonneg _)]
          simp only [binOp, ii, Op.shift, if_neg (show ¬ m < 0 by omega), Sem.run_pure, IntKind.bits, e]
      · cases h
    · cases h
  · rw [if_neg hsh] at h
    split at h
    · rename_i x wd a
      obtain ⟨hw, rfl⟩ := inv_u hx
      split at h
      · rename_i y wd' b
        by_cases e : wd' = wd
        · subst e
          rw [dif_pos rfl, castB_rfl] at h
          obtain ⟨_, rfl⟩ := inv_u hy
          obtain ⟨u, hu, hv⟩ := run_binU (P := P) (w := w) hw op t a b v c (by simpa using hsh) h
          exact ⟨u, plain (by intro cs; simp [ic]) (by simp [ic]) hu, hv⟩
        · rw [dif_neg e] at h; cases h
      · cases h
    · rename_i x a
      obtain ⟨hr, rfl⟩ := inv_i hx
      split at h
      · rename_i y b
        obtain ⟨hr2, rfl⟩ := inv_i hy
        obtain ⟨u, hu, hv⟩ := run_binI (P := P) (w := w) op t a b v c hr hr2 h
        exact ⟨u, plain (by intro cs; simp [ii]) (by simp [ii]) hu, hv⟩
      · cases h
    · rename_i x a
      obtain rfl := inv_b hx
      split at h
      · rename_i y b
        obtain rfl := inv_b hy
        split at h
        · rename_i hq
          rw [hty] at hq
          obtain ⟨_, d1⟩ := tyOf_desc hq
          have hrun := run_equal_bool (P := P) w t a b d1
          split at h
          · cases h; exact ⟨_, plain (by intro cs; simp) (by simp) (u := .bool (a == b)) (by simp [binOp, hrun]), rfl⟩
          · cases h; exact ⟨_, plain (by intro cs; simp) (by simp) (u := .bool (!(a == b))) (by simp [binOp, hrun]), rfl⟩
          · cases h
        · cases h
      · cases h
    · rename_i x a
      obtain ⟨s, rfl, hs, hl⟩ := inv_s hx
      split at h
      · rename_i y b
        obtain ⟨s2, rfl, hs2, hl2⟩ := inv_s hy
        split at h
        · cases h; exact ⟨_, plain (by intro cs; simp) (by simp) (by simp [binOp, Op.stringOp, run_string_eq hs hs2]), rfl⟩
        · cases h; exact ⟨_, plain (by intro cs; simp) (by simp) (by simp [binOp, Op.stringOp, run_string_eq hs hs2]), rfl⟩
        · obtain ⟨h1, h2⟩ := chk_some h
          cases h2
          refine ⟨_, plain (by intro cs; simp) (by simp) (u := .string (s ++ s2)) ?_, s ++ s2, rfl, by rw [bytesOf_append, hs, hs2], by simpa using h1⟩
          have e1 := bytesOf_len s
          have e2 := bytesOf_len s2
          rw [hs] at e1
          rw [hs2] at e2
          have hle : ¬ (((s.size + s2.size : Nat) : Int) > IntKind.i64.max) := by
            have : IntKind.i64.max = 9223372036854775807 := by decide
            rw [this]
            have h3 : a.length + b.length ≤ 140737488355328 := h1
            omega
          simp only [binOp, Op.stringOp, if_neg hle, Sem.run_pure]
        · cases h
      · cases h
    · rename_i x n wd a
      split at h
      · rename_i y m wd' b
        cases hq : Γ.ty t with
        | none => rw [hq] at h; cases h
        | some ty =>
          rw [hq] at h
          split at h
          · rename_i _ k wd2 hq2
            cases hq2
            by_cases e : wd' = wd
            · subst e
              rw [dif_pos rfl] at h
              obtain ⟨⟨h1, h2⟩, h3⟩ := chk_some h
              rw [hty] at hq
              obtain ⟨nn, te, d1, d2, d3⟩ := tyOf_desc hq
              obtain ⟨_, d4⟩ := tyOf_desc d2
              obtain ⟨hw, hn, rfl⟩ := inv_aggu hx
              obtain ⟨_, hm, rfl⟩ := inv_aggu hy
              obtain ⟨inf, i1, i2, _⟩ := tyOf_info d2
              have hsz : (P.info? te).map (·.size) = some 1 := by rw [i1]; simp [i2, Ty.size]
              split at h3
              · cases h3
                refine ⟨_, ?_, rfl⟩
                rw [run_agg_eq (P := P) (w := w) d1 d4.2 hsz d3 (by omega) (by omega) ox oy .eql (.inl rfl)]
                simp
                rfl
              · cases h3
                refine ⟨_, ?_, rfl⟩
                rw [run_agg_eq (P := P) (w := w) d1 d4.2 hsz d3 (by omega) (by omega) ox oy .neq (.inr rfl)]
                simp
                rfl
              · cases h3
            · rw [dif_neg e] at h; cases h
          · cases h
      · cases h
    · rename_i x k f o i
      obtain ⟨b, hb, rfl⟩ := inv_p hx
      split at h
      · obtain rfl := inv_nilp hy
        split at h
        · rename_i hq
          rw [hty] at hq
          obtain ⟨_, e, d1⟩ := tyOf_desc hq
          have heq : (Op.equal t (.pointer (some ⟨b, o + i, none⟩)) (.pointer none)).run P w = .ok false w := run_eqIn_p 9999 d1 _
          split at h
          · cases h; exact ⟨_, plain (by intro cs; simp) (by simp) (u := .bool false) (by simp only [binOp, Sem.run_bind, heq, Result.andThen_ok, Sem.run_pure]), rfl⟩
          · cases h; exact ⟨_, plain (by intro cs; simp) (by simp) (u := .bool true) (by simp only [binOp, Sem.run_bind, heq, Result.andThen_ok, Sem.run_pure, Bool.not_false]), rfl⟩
          · cases h
        · cases h
      · cases h
    · obtain rfl := inv_nilp hx
      split at h
      · obtain rfl := inv_nilp hy
        split at h
        · rename_i hq
          rw [hty] at hq
          obtain ⟨_, e, d1⟩ := tyOf_desc hq
          have heq : (Op.equal t (.pointer none) (.pointer none)).run P w = .ok true w := run_eqIn_n 9999 d1
          split at h
          · cases h; exact ⟨_, plain (by intro cs; simp) (by simp) (u := .bool true) (by simp only [binOp, Sem.run_bind, heq, Result.andThen_ok, Sem.run_pure]), rfl⟩
          · cases h; exact ⟨_, plain (by intro cs; simp) (by simp) (u := .bool false) (by simp only [binOp, Sem.run_bind, heq, Result.andThen_ok, Sem.run_pure, Bool.not_true]), rfl⟩
          · cases h
        · cases h
      · cases h
    · cases h

end
end Go.Vm

/- The operations that only reckon or read, more of them. -/
namespace Go.Vm
open Go
set_option linter.unusedVariables false

section
variable {P : Program} {c : Cx} {w : World}

theorem kw_max {wd : Nat} (h : okW wd) : (kw wd).max = ((2 ^ wd - 1 : Nat) : Int) := by
  rcases h with rfl | rfl | rfl | rfl <;> decide

theorem aUn_sound {op : UnOp} {x v : V} {u1 : Value} (h : aUn op x = some v) (hx : VRel c w x u1) : ∃ u, (Op.unary op u1).run P w = .ok u w ∧ VRel c w v u := by
  unfold aUn at h
  split at h
  · rename_i x wd a
    obtain ⟨hw, rfl⟩ := inv_u hx
    split at h
    · cases h
      refine ⟨ic wd (~~~a), ?_, hw, rfl⟩
      have e : (2 ^ wd - 1 : Nat) = (BitVec.allOnes wd).toNat := by simp
      simp only [Op.unary, ic, kw_signed hw, Bool.false_eq_true, if_false, kw_max hw]
      rw [e]
      exact run_bits hw .xor (BitVec.allOnes wd) a _ (.inr (.inr (.inl ⟨rfl, by simp⟩)))
    · cases h
      refine ⟨ic wd (-a), ?_, hw, rfl⟩
      have e := ic_sub hw (0#wd) a
      simp only [BitVec.toNat_zero, BitVec.zero_sub] at e
      simp only [Op.unary, ic, Op.intArith, Sem.run_pure]
      rw [show ((0 : Int) - a.toNat) = ((0 : Nat) : Int) - a.toNat from rfl, e]
      rfl
    · cases h
  · rename_i x a
    obtain ⟨hr, rfl⟩ := inv_i hx
    split at h
    · obtain ⟨h1, rfl⟩ := chkI_some h
      refine ⟨ii (-a), ?_, h1, rfl⟩
      have := wrap_in h1
      simp only [Op.unary, ii, Op.intArith, Sem.run_pure, Int.zero_sub, this]
    · cases h
  · rename_i x a
    obtain rfl := inv_b hx
    split at h
    · cases h; exact ⟨_, rfl, rfl⟩
    · cases h
  · cases h

theorem wrap_ofInt {wd : Nat} (hw : okW wd) (n : Int) : Value.int (kw wd) ((kw wd).wrap n) = ic wd (BitVec.ofInt wd n) := by
  rw [kw_wrap hw, ic, BitVec.toNat_ofInt]
  congr 1
  have h : (0 : Int) < ((2 ^ wd : Nat) : Int) := by exact_mod_cast Nat.two_pow_pos wd
  have := Int.emod_nonneg n (show ((2 ^ wd : Nat) : Int) ≠ 0 by omega)
  omega

theorem run_conv_str {src dst es : Nat} {k : Nat} (hd : P.underlying dst = some .string) {v : Value} {xs : Bytes} (hr : Reads c w v (.u 8 xs)) (hsrc : P.underlying src = some (.slice es)) (hes : P.underlying es = some (.int .u8)) :
    ∃ s, (convert src dst v).run P w = .ok (.string s) w ∧ bytesOf s = xs := by
  obtain ⟨x, cap, rfl, hcap, vs, hvs, hcell⟩ := hr.sl
  rw [run_convert_bytes_string w src dst es x _ cap hsrc hes hd]
  have hlen := rowVals_len hvs
  simp only [Row.len] at hlen ⊢
  have hvs2 : vs = (xs.map (fun y => (y.toNat : Int))).map (Value.int .u8) := by rw [hvs.2]; simp [ic, kw]
  rcases hcell with h0 | ⟨ad, rfl, _, hcell⟩
  · have hxs : xs = [] := by rw [h0] at hlen; exact List.eq_nil_of_length_eq_zero hlen.symm
    subst hxs
    cases x with
    | none => exact ⟨ByteArray.empty, by simp [Conv.bytesToString], rfl⟩
    | some ad =>
      refine ⟨ByteArray.empty, ?_, rfl⟩
      have := run_bytesToString (P := P) w ad 0 cap [] (by simp [loadCells, loadCellsFrom])
      simpa using this
  · have hload := run_loadCells_list (P := P) w ad vs hcell
    rw [hlen] at hload
    have := run_bytesToString (P := P) w ad xs.length cap (xs.map (fun y => (y.toNat : Int))) (by rw [hload, hvs2])
    refine ⟨_, this, ?_⟩
    have key : ∀ (ys : Bytes) (s : ByteArray), bytesOf ((ys.map (fun y => (y.toNat : Int))).foldl (fun r n => r.push (UInt8.ofNat n.toNat)) s) = bytesOf s ++ ys := by
      intro ys
      induction ys with
      | nil => intro s; simp
      | cons y ys ih =>
        intro s
        simp only [List.map_cons, List.foldl_cons, ih]
        have : bytesOf (s.push (UInt8.ofNat (Int.toNat (y.toNat : Int)))) = bytesOf s ++ [y] := by
          simp only [bytesOf, ByteArray.push, Int.toNat_natCast, Array.toList_push, List.map_append, List.map_cons, List.map_nil]
          congr 2
          apply BitVec.eq_of_toNat_eq
          have := y.isLt
          simp
        rw [this]
        simp
    have := key xs ByteArray.empty
    rw [this]
    rfl

end

section
variable {gl : Nat → Option Row} {w0 : World} {ext : Nat → Nat → Prop} {av : Nat → Prop} {φ : Nat → Option Nat} {st : St} {a : Act} {w : World} {P : Program} {Γ : Ctx}

theorem aConv_sound (hty : Γ.ty = tyOf P 8) (h : Rel gl w0 ext av φ st a w) {ks : List Nat} {src dst : Nat} {x v : V} {u1 : Value}
    (hx : aConv Γ (restr ks st.mem) src dst x = some v) (hv : VRel (cxOf φ st.mem av w0.heap.size) w x u1) :
    ∃ u, (convert src dst u1).run P w = .ok u w ∧ VRel (cxOf φ st.mem av w0.heap.size) w v u := by
  unfold aConv at hx
  cases hs : Γ.ty src with
  | none => rw [hs] at hx; cases hx
  | some sty =>
  rw [hs] at hx
  have hs' := hs
  rw [hty] at hs'
  obtain ⟨ns, ds⟩ := tyOf_desc hs'
  obtain ⟨sd, hsd⟩ : ∃ d, P.underlying src = some d := by
    cases sty with
    | b => exact ⟨_, ds⟩
    | u wd => exact ⟨_, ds.2⟩
    | i => exact ⟨_, ds⟩
    | s => exact ⟨_, ds⟩
    | p => obtain ⟨e, d⟩ := ds; exact ⟨_, d⟩
    | sl t => obtain ⟨e, d, _⟩ := ds; exact ⟨_, d⟩
    | arr k t => obtain ⟨e, d, _⟩ := ds; exact ⟨_, d⟩
    | st ts => obtain ⟨e, d, _⟩ := ds; exact ⟨_, d⟩
    | o => exact ds.elim
  dsimp only at hx
  split at hx
  · rename_i wd hq
    rw [hty] at hq
    obtain ⟨_, hw, hd⟩ := tyOf_desc hq
    split at hx
    · rename_i x wd' b
      cases hx
      obtain ⟨hw', rfl⟩ := inv_u hv
      refine ⟨ic wd (b.setWidth wd), ?_, hw, rfl⟩
      have e : ic wd (b.setWidth wd) = ic wd (BitVec.ofInt wd (b.toNat : Int)) := by
        congr 1
        apply BitVec.eq_of_toNat_eq
        simp
      rw [e, ← wrap_ofInt hw]
      simp only [convert, Sem.run_bind, run_underlying hsd, run_underlying hd, Result.andThen_ok, ic]
      cases sd <;> rfl
    · rename_i x n
      cases hx
      obtain ⟨hr, rfl⟩ := inv_i hv
      refine ⟨ic wd (BitVec.ofInt wd n), ?_, hw, rfl⟩
      rw [← wrap_ofInt hw]
      simp only [convert, Sem.run_bind, run_underlying hsd, run_underlying hd, Result.andThen_ok, ii]
      cases sd <;> rfl
    · cases hx
  · rename_i hq
    rw [hty] at hq
    obtain ⟨_, hd⟩ := tyOf_desc hq
    have hd : P.underlying dst = some (.int .i64) := hd
    split at hx
    · rename_i x wd' b
      obtain ⟨h1, h2⟩ := chk_some hx
      cases h2
      obtain ⟨hw', rfl⟩ := inv_u hv
      have hin : inR (b.toNat : Int) := by unfold inR; omega
      refine ⟨ii (b.toNat : Int), ?_, hin, rfl⟩
      simp only [convert, Sem.run_bind, run_underlying hsd, run_underlying hd, Result.andThen_ok, ic]
      cases sd <;> simp [Conv.intToInt, wrap_in hin, ii]
    · rename_i x n
      cases hx
      obtain ⟨hr, rfl⟩ := inv_i hv
      refine ⟨ii n, ?_, hr, rfl⟩
      simp only [convert, Sem.run_bind, run_underlying hsd, run_underlying hd, Result.andThen_ok, ii]
      cases sd <;> simp [Conv.intToInt, wrap_in hr]
    · cases hx
  · rename_i hq
    rw [hty] at hq
    obtain ⟨_, hd⟩ := tyOf_desc hq
    have hd : P.underlying dst = some .string := hd
    split at hx
    · rename_i hsl
      cases hr : rowOf (restr ks st.mem) x with
      | none => rw [hr] at hx; cases hx
      | some r =>
        rw [hr] at hx
        split at hx
        · rename_i q xs hq2
          cases hq2
          obtain ⟨g1, g2⟩ := chk_some hx
          cases g2
          have hreads := rowOf_reads h (rowOf_restr hr) hv
          obtain ⟨se, sde, sdt⟩ := ds
          obtain ⟨_, _, sd8⟩ := tyOf_desc sdt
          obtain ⟨s, h1, h2⟩ := run_conv_str (k := 0) hd hreads sde sd8
          exact ⟨.string s, h1, s, rfl, h2, g1⟩
        · cases hx
    · cases hx
  · cases hx


theorem slice_bounds {lo hi mx : Option V} {l' h' m' : Option Value} {n l hh : Nat} (cap : Nat) (isS : Bool) (hb : bnd lo hi mx n = some (l, hh)) (hn : n ≤ cap)
    (r1 : ∀ x, lo = some x → ∃ u, l' = some u ∧ VRel (cxOf φ st.mem av w0.heap.size) w x u) (r1n : lo = none → l' = none)
    (r2 : ∀ x, hi = some x → ∃ u, h' = some u ∧ VRel (cxOf φ st.mem av w0.heap.size) w x u) (r2n : hi = none → h' = none)
    (r3 : ∀ x, mx = some x → ∃ u, m' = some u ∧ VRel (cxOf φ st.mem av w0.heap.size) w x u) (r3n : mx = none → m' = none) (hm : mx ≠ none → hi ≠ none) :
    l ≤ hh ∧ hh ≤ n ∧ ∃ m, hh ≤ m ∧ m ≤ cap ∧ (mx = none → m = cap) ∧ (Instr.sliceBounds isS n cap l' h' m').run P w = .ok (l, hh, m) w := by
  have bound : ∀ (k : Int) (y : Nat) (code : BoundsCode), 0 ≤ k → k ≤ y → (Instr.sliceBound (ii k) y code).run P w = .ok k.toNat w := by
    intro k y code h1 h2
    simp [Instr.sliceBound, ii, asIntOf, h1, h2]
  unfold bnd at hb
  cases hh0 : bndB hi n n with
  | none => rw [hh0] at hb; cases hb
  | some h0 =>
    rw [hh0] at hb
    dsimp only at hb
    cases hl0 : bndB lo 0 h0 with
    | none => rw [hl0] at hb; cases hb
    | some l0 =>
      rw [hl0] at hb
      dsimp only at hb
      have gen : ∀ {x : Option V} {d n z : Nat}, bndB x d n = some z → (x = none ∧ z = d) ∨ ∃ k : Int, x = some (.i k) ∧ 0 ≤ k ∧ k ≤ n ∧ z = k.toNat := by
        intro x d n z hz
        unfold bndB at hz
        split at hz
        · cases hz; exact .inl ⟨rfl, rfl⟩
        · rename_i k; obtain ⟨⟨g1, g2⟩, g3⟩ := chk_some hz; cases g3; exact .inr ⟨k, rfl, g1, g2, rfl⟩
        · cases hz
      have hhi := gen hh0
      have hlo := gen hl0
      have hmx : (l0, h0) = (l, hh) ∧ (mx = none ∨ ∃ k : Int, mx = some (.i k) ∧ k = h0) := by
        split at hb
        · exact ⟨by simpa using hb, .inl rfl⟩
        · rename_i k; obtain ⟨g1, g2⟩ := chk_some hb; exact ⟨by simpa using g2, .inr ⟨k, rfl, g1⟩⟩
        · cases hb
      obtain ⟨heq, hmx⟩ := hmx
      cases heq
      have hle : hh ≤ n := by
        rcases hhi with ⟨_, rfl⟩ | ⟨k, _, _, g, rfl⟩
        · exact Nat.le_refl _
        · omega
      have hll : l ≤ hh := by
        rcases hlo with ⟨_, rfl⟩ | ⟨k, _, _, g, rfl⟩
        · omega
        · omega
      refine ⟨hll, hle, ?_⟩
      rcases hmx with hmx | ⟨k, hmx, hk⟩
      · refine ⟨cap, by omega, Nat.le_refl _, fun _ => rfl, ?_⟩
        rw [r3n hmx]
        unfold Instr.sliceBounds
        rcases hhi with ⟨hi0, rfl⟩ | ⟨kh, hi0, g1, g2, rfl⟩
        · rw [r2n hi0]
          rcases hlo with ⟨lo0, rfl⟩ | ⟨kl, lo0, g3, g4, rfl⟩
          · rw [r1n lo0]; simp
          · obtain ⟨u, hu, hv⟩ := r1 _ lo0
            obtain ⟨_, rfl⟩ := inv_i hv
            rw [hu]
            simp [bound kl _ _ g3 g4]
        · obtain ⟨u, hu, hv⟩ := r2 _ hi0
          obtain ⟨_, rfl⟩ := inv_i hv
          rw [hu]
          have b1 := fun code => bound kh cap code g1 (by omega)
          rcases hlo with ⟨lo0, rfl⟩ | ⟨kl, lo0, g3, g4, rfl⟩
          · rw [r1n lo0]; simp [b1]
          · obtain ⟨u, hu, hv⟩ := r1 _ lo0
            obtain ⟨_, rfl⟩ := inv_i hv
            rw [hu]
            simp [b1, bound kl _ _ g3 g4]
      · obtain ⟨um, hum, hvm⟩ := r3 _ hmx
        obtain ⟨_, rfl⟩ := inv_i hvm
        subst hk
        refine ⟨hh, Nat.le_refl _, by omega, (fun e => by rw [hmx] at e; cases e), ?_⟩
        rw [hum]
        unfold Instr.sliceBounds
        have bm := fun code => bound (hh : Int) cap code (by omega) (by omega)
        rcases hhi with ⟨hi0, rfl⟩ | ⟨kh, hi0, g1, g2, rfl⟩
        · exact absurd hi0 (hm (by rw [hmx]; simp))
        · obtain ⟨u, hu, hv⟩ := r2 _ hi0
          obtain ⟨_, rfl⟩ := inv_i hv
          rw [hu]
          have b1 := fun code => bound kh kh.toNat code g1 (by omega)
          obtain ⟨kn, rfl⟩ := Int.eq_ofNat_of_zero_le g1
          simp only [Int.toNat_natCast] at bm b1 ⊢
          rcases hlo with ⟨lo0, rfl⟩ | ⟨kl, lo0, g3, g4, rfl⟩
          · rw [r1n lo0]; simp [bm, b1]
          · obtain ⟨u, hu, hv⟩ := r1 _ lo0
            obtain ⟨_, rfl⟩ := inv_i hv
            rw [hu]
            have b2 := fun code => bound kl kn code g3 (by simpa using g4)
            simp [bm, b1, b2]

end
end Go.Vm

/- Slicing, addresses, parts, lengths. -/
namespace Go.Vm
open Go
set_option linter.unusedVariables false

section
variable {gl : Nat → Option Row} {w0 : World} {ext : Nat → Nat → Prop} {av : Nat → Prop} {φ : Nat → Option Nat} {st : St} {a : Act} {w : World} {P : Program} {Γ : Ctx}

theorem add_if (b o k l m : Nat) : (if m = l then (⟨b, o, none⟩ : Addr) else (⟨b, o, none⟩ : Addr).add k) = ⟨b, o + (if m = l then 0 else k), none⟩ := by
  split
  · simp
  · rw [addr_add]

theorem bytes_sub (s : ByteArray) (l h : Nat) (hh : h ≤ s.size) : bytesOf (s.extract l h) = subL (bytesOf s) l (h - l) := by
  simp only [bytesOf, subL, ByteArray.data_extract, Array.toList_extract, List.extract]
  rw [← List.map_drop, ← List.map_take]

theorem aSlice_sound (hty : Γ.ty = tyOf P 8) {M : Nat → Option V} (hroom : ∀ k f o c s b, M k = some c → subV c f o = some s → φ k = some b → ∃ cur e fr, w.heap[b]? = some (.cells cur e fr) ∧ o + roomV s ≤ cur.size) {t m : Nat} {sty : Ty} {x v : V} {lo hi mx : Option V} {u1 : Value} {l' h' m' : Option Value} (hst : tyOf P 8 t = some sty)
    (hx : aSlice Γ M t x lo hi mx = some v) (hv : VRel (cxOf φ st.mem av w0.heap.size) w x u1)
    (r1 : ∀ x, lo = some x → ∃ u, l' = some u ∧ VRel (cxOf φ st.mem av w0.heap.size) w x u) (r1n : lo = none → l' = none)
    (r2 : ∀ x, hi = some x → ∃ u, h' = some u ∧ VRel (cxOf φ st.mem av w0.heap.size) w x u) (r2n : hi = none → h' = none)
    (r3 : ∀ x, mx = some x → ∃ u, m' = some u ∧ VRel (cxOf φ st.mem av w0.heap.size) w x u) (r3n : mx = none → m' = none) (hm : mx ≠ none → hi ≠ none) :
    ∃ u, (Instr.sliceAt t u1 l' h' m').run P w = .ok u w ∧ VRel (cxOf φ st.mem av w0.heap.size) w v u := by
  obtain ⟨_, hdesc⟩ := tyOf_desc hst
  have slT : ∀ {e : Ty}, sty = .sl e → e.size = 1 ∨ True → ∃ te, P.underlying t = some (.slice te) ∧ tyOf P m te = some e ∨ True := fun _ _ => ⟨0, .inr trivial⟩
  unfold aSlice at hx
  split at hx
  · rename_i x fr r
    split at hx
    · cases hb : bnd lo hi none r.len with
      | none => rw [hb] at hx; cases hx
      | some lh =>
        obtain ⟨l, hh⟩ := lh
        rw [hb] at hx
        dsimp only at hx
        split at hx
        · rename_i e hq
          rw [hty, hst] at hq
          cases hq
          obtain ⟨te, d1, d2⟩ := hdesc
          obtain ⟨g1, g2⟩ := chk_some hx
          cases g2
          obtain ⟨a', len, cap, rfl, rfl, hlc, hlim, hok, hloc⟩ := inv_sl hv
          obtain ⟨k1, k2, m0, k3, k4, k5, k6⟩ := slice_bounds (P := P) cap true hb hlc r1 r1n r2 r2n (by intro x hx; cases hx) (fun _ => r3n rfl) (by simp)
          have hsz := sizeOf_run d2 w
          refine ⟨.slice (if m0 = l then a' else a'.map (·.add (l * e.size))) (hh - l) (m0 - l), ?_, _, rfl, ?_⟩
          · simp [Instr.sliceAt, run_underlying d1, Instr.slice, k6, hsz]
          · have hokr : okR (r.sub l (hh - l)) := by
              unfold Row.sub; split
              · exact hok
              · cases r <;> first | exact hok | trivial
            refine ⟨_, _, _, rfl, (Row.sub_len _ _ _ (by omega)).symm, by omega, by rw [Row.sub_len _ _ _ (by omega)]; omega, hokr, ?_⟩
            by_cases h0 : hh - l = 0
            · left; rw [Row.sub_len _ _ _ (by omega)]; exact h0
            · right
              rcases hloc with h1 | ⟨blk, off, rfl, hr⟩
              · omega
              · refine ⟨blk, off + l * r.esz, ?_, rowAt_sub hr l (hh - l)⟩
                rw [if_neg (by omega)]
                simp only [Option.map_some, addr_add]
                rw [g1]
        · cases hx
    · cases hx
  · obtain rfl := inv_nils hv
    split at hx
    · cases hb : bnd lo hi none 0 with
      | none => rw [hb] at hx; cases hx
      | some lh =>
        obtain ⟨l, hh⟩ := lh
        rw [hb] at hx
        dsimp only at hx
        split at hx
        · rename_i e hq
          cases hx
          rw [hty, hst] at hq
          cases hq
          obtain ⟨te, d1, d2⟩ := hdesc
          obtain ⟨k1, k2, m0, k3, k4, k5, k6⟩ := slice_bounds (P := P) 0 true hb (Nat.le_refl _) r1 r1n r2 r2n (by intro x hx; cases hx) (fun _ => r3n rfl) (by simp)
          have hsz := sizeOf_run d2 w
          have h0 : hh = 0 := by omega
          have l0 : l = 0 := by omega
          have m00 : m0 = 0 := by omega
          subst h0; subst l0; subst m00
          refine ⟨.slice none 0 0, ?_, rfl⟩
          simp [Instr.sliceAt, run_underlying d1, Instr.slice, k6, hsz]
        · cases hx
    · cases hx
  · rename_i x k len
    cases hb : bnd lo hi mx len with
    | none => rw [hb] at hx; cases hx
    | some lh =>
      obtain ⟨l, hh⟩ := lh
      rw [hb] at hx
      dsimp only at hx
      split at hx
      · rename_i e hq
        rw [hty, hst] at hq
        cases hq
        obtain ⟨te, d1, d2⟩ := hdesc
        obtain ⟨gsz, hx⟩ := chk_some hx
        obtain ⟨a', cap, rfl, hlc, hloc⟩ := inv_gr hv
        obtain ⟨k1, k2, m0, k3, k4, k5, k6⟩ := slice_bounds (P := P) cap true hb hlc r1 r1n r2 r2n r3 r3n hm
        have hsz := sizeOf_run d2 w
        have hrun : (Instr.sliceAt t (.slice a' len cap) l' h' m').run P w = .ok (.slice (if m0 = l then a' else a'.map (·.add (l * e.size))) (hh - l) (m0 - l)) w := by
          simp [Instr.sliceAt, run_underlying d1, Instr.slice, k6, hsz]
        by_cases hl : l = 0
        · rw [if_pos hl] at hx
          cases hx
          subst hl
          refine ⟨_, hrun, ?_⟩
          have e1 : (if m0 = 0 then a' else a'.map (·.add (0 * e.size))) = a' := by
            split
            · rfl
            · cases a' <;> simp [Addr.add]
          rw [e1]
          refine ⟨a', m0 - 0, rfl, by omega, ?_⟩
          rcases hloc with ⟨rfl, rfl⟩ | ⟨b, cur, e', fr, f1, rfl, f3, f4⟩
          · exact .inl ⟨rfl, by omega⟩
          · exact .inr ⟨b, cur, e', fr, f1, rfl, f3, by omega⟩
        · rw [if_neg hl] at hx
          split at hx
          · obtain ⟨glt, hx⟩ := chk_some hx
            cases hx
            refine ⟨_, hrun, ?_⟩
            rcases hloc with ⟨rfl, rfl⟩ | ⟨b, cur, e', fr, f1, rfl, f3, f4⟩
            · omega
            · have hm0 : m0 = cap := k5 rfl
              subst hm0
              rw [if_neg (by omega)]
              simp only [Option.map_some, addr_add]
              exact ⟨b, m0 - l, f1, by simp [gsz], by omega, cur, e', fr, f3, by omega⟩
          · cases hx
      · cases hx
  · rename_i x k f o i len
    obtain ⟨b, cap, f1, rfl, hlc, ocur, oe, ofr, oh, ocap⟩ := inv_os' hv
    split at hx
    · cases hb : bnd lo hi none len with
      | none => rw [hb] at hx; cases hx
      | some lh =>
        obtain ⟨l, hh⟩ := lh
        rw [hb] at hx
        dsimp only at hx
        split at hx
        · rename_i e hq
          rw [hty, hst] at hq
          cases hq
          obtain ⟨te, d1, d2⟩ := hdesc
          obtain ⟨⟨g1, g3⟩, g2⟩ := chk_some hx
          cases g2
          obtain ⟨k1, k2, m0, k3, k4, k5, k6⟩ := slice_bounds (P := P) cap true hb hlc r1 r1n r2 r2n (by intro x hx; cases hx) (fun _ => r3n rfl) (by simp)
          have hsz := sizeOf_run d2 w
          refine ⟨.slice (if m0 = l then some ⟨b, o + i, none⟩ else (some ⟨b, o + i, none⟩ : Option Addr).map (·.add (l * e.size))) (hh - l) (m0 - l), ?_, ?_⟩
          · simp [Instr.sliceAt, run_underlying d1, Instr.slice, k6, hsz]
          · rw [if_neg (by omega)]
            simp only [Option.map_some, addr_add]
            exact ⟨b, m0 - l, f1, by simp [g1, Nat.add_assoc], by omega, ocur, oe, ofr, oh, by have := k5 rfl; omega⟩
        · cases hx
    · cases hx
  · rename_i x k f o i
    obtain ⟨b, f1, rfl⟩ := inv_p hv
    split at hx
    · split at hx
      · rename_i n e hq
        rw [hty, hst] at hq
        cases hq
        obtain ⟨te, d1, d2, d3⟩ := hdesc
        cases hb : bnd lo hi none n with
        | none => rw [hb] at hx; cases hx
        | some lh =>
          obtain ⟨l, hh⟩ := lh
          rw [hb] at hx
          dsimp only at hx
          cases hMk : M k with
          | none => rw [hMk] at hx; cases hx
          | some cc =>
          rw [hMk] at hx
          dsimp only at hx
          cases hsb : subV cc f o with
          | none => rw [hsb] at hx; cases hx
          | some ss =>
          rw [hsb] at hx
          dsimp only at hx
          obtain ⟨⟨g1, g3, groom⟩, g2⟩ := chk_some hx
          cases g2
          obtain ⟨ocur, oe, ofr, oh, ocap⟩ := hroom k f o cc ss b hMk hsb f1
          obtain ⟨k1, k2, m0, k3, k4, k5, k6⟩ := slice_bounds (P := P) n false hb (Nat.le_refl _) r1 r1n r2 r2n (by intro x hx; cases hx) (fun _ => r3n rfl) (by simp)
          have hsz := sizeOf_run d2 w
          refine ⟨.slice (some (if m0 = l then ⟨b, o + i, none⟩ else (⟨b, o + i, none⟩ : Addr).add (l * e.size))) (hh - l) (m0 - l), ?_, ?_⟩
          · simp [Instr.sliceAt, run_underlying d1, Instr.sureAddr, k6, hsz]
          · have hadr : (if m0 = l then (⟨b, o + i, none⟩ : Addr) else (⟨b, o + i, none⟩ : Addr).add (l * e.size)) = ⟨b, o + i + l * e.size, none⟩ := by
              rcases g3 with g3 | g3
              · rw [if_neg (by omega), addr_add]
              · subst g3
                split
                · simp
                · rw [addr_add]
            rw [hadr]
            exact ⟨b, m0 - l, f1, by simp [g1, Nat.add_assoc], by omega, ocur, oe, ofr, oh, by have := k5 rfl; omega⟩
      · cases hx
    · cases hx
  · rename_i x r i
    obtain ⟨b, off, rfl, hrow⟩ := inv_rp hv
    split at hx
    · split at hx
      · rename_i n e hq
        rw [hty, hst] at hq
        cases hq
        obtain ⟨te, d1, d2, d3⟩ := hdesc
        cases hb : bnd lo hi none n with
        | none => rw [hb] at hx; cases hx
        | some lh =>
          obtain ⟨l, hh⟩ := lh
          rw [hb] at hx
          dsimp only at hx
          obtain ⟨⟨g1, g3, g4, g5, g6, g7⟩, g2⟩ := chk_some hx
          cases g2
          obtain ⟨k1, k2, m0, k3, k4, k5, k6⟩ := slice_bounds (P := P) n false hb (Nat.le_refl _) r1 r1n r2 r2n (by intro x hx; cases hx) (fun _ => r3n rfl) (by simp)
          have hsz := sizeOf_run d2 w
          refine ⟨.slice (some (if m0 = l then ⟨b, off + i * r.esz, none⟩ else (⟨b, off + i * r.esz, none⟩ : Addr).add (l * e.size))) (hh - l) (m0 - l), ?_, ?_⟩
          · simp [Instr.sliceAt, run_underlying d1, Instr.sureAddr, k6, hsz]
          · rw [if_neg (by omega), addr_add]
            have hsl : (r.sub (i + l) (hh - l)).len = hh - l := Row.sub_len _ _ _ (by omega)
            refine ⟨_, rfl, _, _, _, rfl, hsl.symm, by omega, by rw [hsl]; simp only [LIM]; omega, ?_, .inr ⟨b, _, rfl, ?_⟩⟩
            · have hok : okR r := by cases r <;> first | exact okU_iff.1 g7 | trivial
              unfold Row.sub; split
              · exact hok
              · cases r <;> first | exact hok | trivial
            · have := rowAt_sub hrow (i + l) (hh - l)
              rw [g5] at this ⊢
              rw [g1]
              simpa [Nat.add_assoc] using this
      · cases hx
    · cases hx
  · rename_i x bs
    obtain ⟨s, rfl, hs, hl⟩ := inv_s hv
    split at hx
    · cases hb : bnd lo hi none bs.length with
      | none => rw [hb] at hx; cases hx
      | some lh =>
        obtain ⟨l, hh⟩ := lh
        rw [hb] at hx
        dsimp only at hx
        split at hx
        · rename_i hq
          cases hx
          rw [hty, hst] at hq
          cases hq
          have d1 : P.underlying t = some .string := hdesc
          have hsz : bs.length = s.size := by rw [← hs, bytesOf_len]
          rw [hsz] at hb
          obtain ⟨k1, k2, m0, k3, k4, k5, k6⟩ := slice_bounds (P := P) s.size false hb (Nat.le_refl _) r1 r1n r2 r2n (by intro x hx; cases hx) (fun _ => r3n rfl) (by simp)
          have hm' : m' = none := r3n rfl
          subst hm'
          refine ⟨.string (s.extract l hh), ?_, s.extract l hh, rfl, by rw [bytes_sub _ _ _ k2, hs], by simp [subL]; omega⟩
          simp [Instr.sliceAt, run_underlying d1, Instr.slice, k6]
        · cases hx
    · cases hx
  · cases hx

end
end Go.Vm

/- Addresses, parts, lengths, loads. -/
namespace Go.Vm
open Go
set_option linter.unusedVariables false

section
variable {gl : Nat → Option Row} {w0 : World} {ext : Nat → Nat → Prop} {av : Nat → Prop} {φ : Nat → Option Nat} {st : St} {a : Act} {w : World} {P : Program} {Γ : Ctx} {c : Cx}

theorem asIntOf_ii (n : Int) (w : World) : (asIntOf (ii n)).run P w = .ok (.i64, n) w := rfl

theorem aIdxAddr_sound (hty : Γ.ty = tyOf P 8) {t : Nat} {x v ix : V} {u1 u2 : Value} (hx : aIdxAddr Γ t x ix = some v) (hv : VRel c w x u1) (hi : VRel c w ix u2) :
    ∃ u, (Instr.indexAt t u1 u2).run P w = .ok u w ∧ VRel c w v u := by
  unfold aIdxAddr at hx
  split at hx
  case h_2 => cases hx
  rename_i ix n
  obtain ⟨hr, rfl⟩ := inv_i hi
  split at hx
  · rename_i x fr r
    split at hx
    · rename_i e hq
      rw [hty] at hq
      obtain ⟨_, te, d1, d2⟩ := tyOf_desc hq
      obtain ⟨⟨g1, g2, g3⟩, g4⟩ := chk_some hx
      cases g4
      obtain ⟨a', len, cap, rfl, rfl, hlc, hlim, hok, hloc⟩ := inv_sl hv
      rcases hloc with h0 | ⟨blk, off, rfl, hrow⟩
      · omega
      · refine ⟨.pointer (some ⟨blk, off + n.toNat * r.esz, none⟩), ?_, blk, off, rfl, ?_⟩
        · have : (n : Int) < (r.len : Int) := g2
          simp [Instr.indexAt, asIntOf_ii, run_underlying d1, g1, g2, sizeOf_run d2, g3, addr_add]
        · cases fr with
          | false => exact hrow
          | true => exact rowAt_weak hrow
    · cases hx
  · rename_i x k len
    split at hx
    · rename_i e hq
      rw [hty] at hq
      obtain ⟨_, te, d1, d2⟩ := tyOf_desc hq
      obtain ⟨⟨g1, g2, g3⟩, g4⟩ := chk_some hx
      cases g4
      obtain ⟨a', cap, rfl, hlc, hloc⟩ := inv_gr hv
      rcases hloc with ⟨rfl, rfl⟩ | ⟨b, cur, e', fr, f1, rfl, f3, f4⟩
      · omega
      · refine ⟨.pointer (some ⟨b, n.toNat, none⟩), ?_, b, f1, by simp⟩
        simp [Instr.indexAt, asIntOf_ii, run_underlying d1, g1, g2, sizeOf_run d2, g3, addr_add]
    · cases hx
  · rename_i x k f o i len
    split at hx
    · rename_i e hq
      rw [hty] at hq
      obtain ⟨_, te, d1, d2⟩ := tyOf_desc hq
      obtain ⟨⟨g1, g2, g3⟩, g4⟩ := chk_some hx
      cases g4
      obtain ⟨b, cap, f1, rfl, hlc⟩ := inv_os hv
      refine ⟨.pointer (some ⟨b, o + i + n.toNat, none⟩), ?_, b, f1, by simp [Nat.add_assoc]⟩
      simp [Instr.indexAt, asIntOf_ii, run_underlying d1, g1, g2, sizeOf_run d2, g3, addr_add]
    · cases hx
  · rename_i x k f o i
    split at hx
    · rename_i m e hq
      rw [hty] at hq
      obtain ⟨_, te, d1, d2, _⟩ := tyOf_desc hq
      obtain ⟨⟨g1, g2⟩, g4⟩ := chk_some hx
      cases g4
      obtain ⟨b, f1, rfl⟩ := inv_p hv
      refine ⟨.pointer (some ⟨b, o + i + n.toNat * e.size, none⟩), ?_, b, f1, by simp [Nat.add_assoc]⟩
      simp [Instr.indexAt, asIntOf_ii, run_underlying d1, Instr.sureAddr, g1, g2, sizeOf_run d2, addr_add]
    · cases hx
  · rename_i x r i
    split at hx
    · rename_i m e hq
      rw [hty] at hq
      obtain ⟨_, te, d1, d2, _⟩ := tyOf_desc hq
      obtain ⟨⟨g1, g2, g3⟩, g4⟩ := chk_some hx
      cases g4
      obtain ⟨b, off, rfl, hrow⟩ := inv_rp hv
      refine ⟨.pointer (some ⟨b, off + i + n.toNat * e.size, none⟩), ?_, b, off, by simp [g3, Nat.add_assoc], hrow⟩
      simp [Instr.indexAt, asIntOf_ii, run_underlying d1, Instr.sureAddr, g1, g2, g3, sizeOf_run d2, addr_add]
    · cases hx
  · cases hx

theorem noOk_bounds {P : Program} {w w' : World} {α : Type} {k : IntKind} {n : Int} {l : Nat} {o : BoundsCode} {u : α} : ¬ (boundsPanic k n l o : Sem α).run P w = .ok u w' := by
  intro h
  simp [boundsPanic, runtimePanic] at h
  split at h
  · split at h <;> cases h
  · cases h
theorem indexAt_kind {k : IntKind} {n : Int} {t : Nat} {u1 u : Value} (h : (Instr.indexAt t u1 (.int .i64 n)).run P w = .ok u w) : (Instr.indexAt t u1 (.int k n)).run P w = .ok u w := by
  simp only [Instr.indexAt, asIntOf, Sem.run_bind, Sem.run_pure, Result.andThen_ok] at h ⊢
  have mono : ∀ {α β : Type} {r : Result α} {f g : α → World → Result β} {u : β} {w' : World}, (∀ a w, f a w = .ok u w' → g a w = .ok u w') → r.andThen f = .ok u w' → r.andThen g = .ok u w' := by
    intro α β r f g u w' h
    cases r with
    | ok a w1 => exact h a w1
    | _ => intro h1; cases h1
  have inner : ∀ (b : Option Addr) (len : Nat) (elem : TypeId) (td : TypeDesc) (w1 : World), ((match b with
      | some a => if 0 ≤ n ∧ n < (len : Int) then do pure (.pointer (some (a.add (n.toNat * (← sizeOf elem)))))
          else if (decide (len ≤ 1) && (match td with | .array .. => true | _ => false)) = true then unsupported (.noEntry "op/indexAddr.an index out of range at an array of length 0 or 1 (ledger 616)")
          else boundsPanic .i64 n len .index
      | none => boundsPanic .i64 n 0 .index) : Sem Value).run P w1 = .ok u w → ((match b with
      | some a => if 0 ≤ n ∧ n < (len : Int) then do pure (.pointer (some (a.add (n.toNat * (← sizeOf elem)))))
          else if (decide (len ≤ 1) && (match td with | .array .. => true | _ => false)) = true then unsupported (.noEntry "op/indexAddr.an index out of range at an array of length 0 or 1 (ledger 616)")
          else boundsPanic k n len .index
      | none => boundsPanic k n 0 .index) : Sem Value).run P w1 = .ok u w := by
    intro b len elem td w1
    cases b with
    | none => intro hh; exact absurd hh noOk_bounds
    | some a =>
      dsimp only
      by_cases h1 : 0 ≤ n ∧ n < (len : Int)
      · rw [if_pos h1, if_pos h1]; exact id
      · rw [if_neg h1, if_neg h1]
        by_cases h2 : (decide (len ≤ 1) && (match td with | .array .. => true | _ => false)) = true
        · rw [if_pos h2, if_pos h2]; exact id
        · rw [if_neg h2, if_neg h2]; intro hh; exact absurd hh noOk_bounds
  refine mono (fun td w1 => ?_) h
  clear h
  split
  · simp only [Sem.run_bind, Sem.run_pure, Result.andThen_ok]
    exact mono (fun a w2 => mono (fun td' w3 => inner (some a) _ _ _ _))
  · simp only [Sem.run_bind, Sem.run_pure, Result.andThen_ok]
    exact mono (fun td' w3 => inner _ _ _ _ _)
  · simp only [Sem.run_bind]
    exact mono (fun a w2 => mono (fun td' w3 => inner _ _ _ _ _))
theorem aIdxAddrN_sound (hty : Γ.ty = tyOf P 8) {t : Nat} {x v ix : V} {u1 u2 : Value} (hx : aIdxAddr Γ t x (normIx ix) = some v) (hv : VRel c w x u1) (hi : VRel c w ix u2) :
    ∃ u, (Instr.indexAt t u1 u2).run P w = .ok u w ∧ VRel c w v u := by
  cases ix with
  | u wd m =>
    obtain ⟨_, rfl⟩ := inv_u hi
    simp only [normIx] at hx
    split at hx
    · rename_i hm
      obtain ⟨u, h1, h2⟩ := aIdxAddr_sound (P := P) (u2 := ii (m.toNat : Int)) hty hx hv ⟨by unfold inR; omega, rfl⟩
      exact ⟨u, indexAt_kind h1, h2⟩
    · cases hx
  | _ => exact aIdxAddr_sound hty hx hv hi
theorem aIdx_sound (hty : Γ.ty = tyOf P 8) {t : Nat} {x v ix : V} {u1 u2 : Value} (hx : aIdx Γ t x ix = some v) (hv : VRel c w x u1) (hi : VRel c w ix u2) :
    ∃ u, (Instr.index t u1 u2).run P w = .ok u w ∧ VRel c w v u := by
  have str : ∀ {k : IntKind} {n : Int} {bs : Bytes} {s : ByteArray}, P.underlying t = some .string → bytesOf s = bs → 0 ≤ n → n < bs.length →
      (Instr.index t (.string s) (.int k n)).run P w = .ok (ic 8 (bs.getD n.toNat 0)) w := by
    intro k n bs s d1 hs g1 g2
    have hsz : bs.length = s.size := by rw [← hs, bytesOf_len]
    have hlt : n.toNat < s.size := by omega
    have hget : bs.getD n.toNat 0 = (s[n.toNat]).toBitVec := by
      rw [← hs]
      simp only [bytesOf, List.getD_eq_getElem?_getD, List.getElem?_map]
      have : s.data.toList[n.toNat]? = some s[n.toNat] := by
        rw [Array.getElem?_toList]
        exact Array.getElem?_eq_getElem hlt
      rw [this]
      rfl
    simp only [Instr.index, asIntOf, Sem.run_bind, Sem.run_pure, run_underlying d1, Result.andThen_ok, g1, if_true]
    rw [show s[n.toNat]? = some s[n.toNat] from getElem?_pos s n.toNat hlt]
    simp only [Sem.run_pure, ic, kw, if_true, hget]
    rfl
  unfold aIdx at hx
  split at hx
  · rename_i ix n
    obtain ⟨hr, rfl⟩ := inv_i hi
    split at hx
    · rename_i x k r
      split at hx
      · rename_i m e hq
        rw [hty] at hq
        obtain ⟨_, te, d1, d2, _⟩ := tyOf_desc hq
        obtain ⟨⟨g1, g2, g3⟩, g4⟩ := chk_some hx
        obtain ⟨cs, rfl, hf⟩ := inv_agg hv
        obtain ⟨q1, q2, q3, q4⟩ := FRel_agg hf
        have hlen := rowVals_len q1
        have hrun : ∀ {u : Value}, (part te cs (n.toNat * e.size)).run P w = .ok u w → (Instr.index t (.agg cs) (ii n)).run P w = .ok u w := by
          intro u hu
          simp [Instr.index, asIntOf_ii, run_underlying d1, g1, g2, sizeOf_run d2, hu]
        have flat : e.flat = true → e.size = 1 → r.get n.toNat = some v → ∃ u, (Instr.index t (.agg cs) (ii n)).run P w = .ok u w ∧ VRel c w v u := by
          intro hf1 hs1 hg
          have hlt : n.toNat < r.len := by rw [q2, ← g3, hs1]; omega
          obtain ⟨u, k1, k2, k3⟩ := rowVals_get q1 hlt hg
          refine ⟨u, hrun ?_, k2⟩
          have hcs : cs[n.toNat]? = some u := by rw [← Array.getElem?_toList]; exact k1
          simp [part, isAgg_run d2, hf1, hs1, hcs]
        split at g4
        · rename_i m2 e2
          cases g4
          refine ⟨.agg (cs.extract (n.toNat * (Ty.arr m2 e2).size) (n.toNat * (Ty.arr m2 e2).size + (Ty.arr m2 e2).size)), hrun (by simp [part, isAgg_run d2, Ty.flat, sizeOf_run d2]), _, rfl, ?_⟩
          have hle : n.toNat * (Ty.arr m2 e2).size + (Ty.arr m2 e2).size ≤ r.len := by
            rw [q2, ← g3]
            have : (n.toNat + 1) * (Ty.arr m2 e2).size ≤ m * (Ty.arr m2 e2).size := Nat.mul_le_mul_right _ (by omega)
            rw [Nat.add_mul] at this
            omega
          rw [Array.toList_extract]
          simp only [List.extract, Nat.add_sub_cancel_left]
          exact agg_of_vals (rowVals_sub q1 _ _) (Row.sub_len _ _ _ hle) (Row.sub_kind _ _ q4)
        · cases g4
        · rename_i hn1 hn2
          refine flat ?_ ?_ g4
          · cases e <;> first | rfl | exact (hn1 _ _ rfl).elim | exact (hn2 _ rfl).elim
          · cases e <;> first | rfl | exact (hn1 _ _ rfl).elim | exact (hn2 _ rfl).elim
      · cases hx
    · rename_i x bs
      split at hx
      · rename_i hq
        rw [hty] at hq
        obtain ⟨_, d1⟩ := tyOf_desc hq
        obtain ⟨⟨g1, g2⟩, g3⟩ := chk_some hx
        cases g3
        obtain ⟨s, rfl, hs, hl⟩ := inv_s hv
        exact ⟨_, str d1 hs g1 g2, .inl rfl, rfl⟩
      · cases hx
    · cases hx
  · rename_i ix wd m
    obtain ⟨hw, rfl⟩ := inv_u hi
    split at hx
    · rename_i x bs
      split at hx
      · rename_i hq
        rw [hty] at hq
        obtain ⟨_, d1⟩ := tyOf_desc hq
        obtain ⟨g2, g3⟩ := chk_some hx
        cases g3
        obtain ⟨s, rfl, hs, hl⟩ := inv_s hv
        have := str (k := kw wd) (n := (m.toNat : Int)) d1 hs (by omega) (by omega)
        simp only [Int.toNat_natCast] at this
        exact ⟨_, this, .inl rfl, rfl⟩
      · cases hx
    · cases hx
  · cases hx

theorem fields_at (P : Program) (n : Nat) : ∀ {ts : List Ty} {fs : List Field} {o : Nat}, mapO' (fun f => tyOf P n f.type) fs = some ts → fieldsFit P o ts fs = true →
    ∀ (j : Nat) (ty : Ty), ts[j]? = some ty → ∃ f, fs[j]? = some f ∧ f.offset = o + Ty.sizes (ts.take j) ∧ tyOf P n f.type = some ty
  | [], fs, o, _, _, j, ty, h => by simp at h
  | t :: ts, [], o, hm, _, j, ty, h => by simp [mapO'] at hm
  | t :: ts, f :: fs, o, hm, hf, j, ty, h => by
    simp only [mapO'] at hm
    cases h1 : tyOf P n f.type with
    | none => rw [h1] at hm; cases hm
    | some t' =>
      rw [h1] at hm
      cases h2 : mapO' (fun f => tyOf P n f.type) fs with
      | none => rw [h2] at hm; cases hm
      | some ts' =>
        rw [h2] at hm
        cases hm
        simp [fieldsFit] at hf
        cases j with
        | zero => simp at h; subst h; exact ⟨f, by simp, by simp [hf.1, Ty.sizes], h1⟩
        | succ j =>
          obtain ⟨g, k1, k2, k3⟩ := fields_at P n h2 hf.2 j ty (by simpa using h)
          exact ⟨g, by simpa using k1, by rw [k2]; simp [Ty.sizes]; omega, k3⟩

theorem aFieldAddr_sound (hty : Γ.ty = tyOf P 8) {t f : Nat} {x v : V} {u1 : Value} (hx : aFieldAddr Γ t x f = some v) (hv : VRel c w x u1) :
    ∃ u, (Instr.fieldAt t u1 f).run P w = .ok u w ∧ VRel c w v u := by
  unfold aFieldAddr at hx
  split at hx
  · rename_i x k
    split at hx
    · rename_i ts hq
      rw [hty] at hq
      obtain ⟨n, fs, d1, d2, d3⟩ := tyOf_desc hq
      cases h1 : ts[f]? with
      | none => rw [h1] at hx; cases hx
      | some ty =>
        rw [h1] at hx
        dsimp only at hx
        obtain ⟨g1, g2⟩ := chk_some hx
        cases g2
        obtain ⟨b, f1, rfl⟩ := inv_p hv
        obtain ⟨fd, k1, k2, k3⟩ := fields_at P n d2 d3 f _ h1
        have hfd : fs[f]? = some fd := by rw [← Array.getElem?_toList]; exact k1
        refine ⟨.pointer (some ⟨b, fd.offset, none⟩), ?_, b, f1, by simp [k2]⟩
        simp [Instr.fieldAt, run_underlying d1, hfd, Instr.sureAddr, fieldPlace, sizeOf_run k3, g1, addr_add]
    · cases hx
  · cases hx

theorem flat_one {c : Cx} {x : V} {l : List Value} (h : FRel c w x l) (hn : ∀ n r, x ≠ .agg n r) : ∃ u, l = [u] ∧ VRel c w x u := by
  have hl := FRel_len h
  have h1 : x.len1 = 1 := by cases x <;> first | rfl | exact absurd rfl (hn _ _)
  rw [h1] at hl
  obtain ⟨u, rfl⟩ := List.length_eq_one_iff.1 hl
  exact ⟨u, rfl, flat_VRel h hn⟩

theorem aField_sound (hty : Γ.ty = tyOf P 8) {t f : Nat} {x v : V} {u1 : Value} (hx : aField Γ t x f = some v) (hv : VRel c w x u1) :
    ∃ u, (Instr.field t u1 f).run P w = .ok u w ∧ VRel c w v u := by
  unfold aField at hx
  split at hx
  · rename_i x fs
    split at hx
    · rename_i ts hq
      rw [hty] at hq
      obtain ⟨n, fds, d1, d2, d3⟩ := tyOf_desc hq
      cases h1 : ts[f]? with
      | none => rw [h1] at hx; cases hx
      | some ty =>
        rw [h1] at hx
        cases h2 : fs[f]? with
        | none => rw [h2] at hx; cases hx
        | some y =>
          rw [h2] at hx
          dsimp only at hx
          obtain ⟨⟨g1, g2⟩, g3⟩ := chk_some hx
          have g3 := Option.some.inj g3
          subst g3
          obtain ⟨cs, css, rfl, hcs, ha⟩ := hv
          obtain ⟨fd, k1, k2, k3⟩ := fields_at P n d2 d3 f ty h1
          have hfd : fds[f]? = some fd := by rw [← Array.getElem?_toList]; exact k1
          obtain ⟨mid, hm, hfm⟩ := All2.get ha f _ h2
          have hlt : f < css.length := (List.getElem?_eq_some_iff.1 hm).1
          have hsplit : css = css.take f ++ mid :: css.drop (f + 1) := by
            rw [List.getElem?_eq_getElem hlt] at hm
            cases hm
            simp
          have hpre : (css.take f).flatten.length = fd.offset := by
            rw [flatten_len (All2_take f ha), k2, g1]; simp [offs]
          have hcs2 : cs.toList = (css.take f).flatten ++ (mid ++ (css.drop (f + 1)).flatten) := by
            rw [hcs]; conv => lhs; rw [hsplit]
            simp
          have hrun : ∀ {u : Value}, (part fd.type cs fd.offset).run P w = .ok u w → (Instr.field t (.agg cs) f).run P w = .ok u w := by
            intro u hu
            simp [Instr.field, run_underlying d1, hfd, asAgg, hu]
          have hml := FRel_len hfm
          cases hfl : ty.flat with
          | true =>
            have hna : ∀ n r, y ≠ .agg n r := by
              intro n r e
              rw [e] at g2
              cases ty <;> first | (cases hfl; done) | (cases g2; done)
            obtain ⟨u, rfl, hu⟩ := flat_one hfm hna
            refine ⟨u, hrun ?_, hu⟩
            have : cs[fd.offset]? = some u := by
              rw [← Array.getElem?_toList, hcs2, List.getElem?_append_right (by omega), hpre]; simp
            simp [part, isAgg_run k3, hfl, this]
          | false =>
            cases ty with
            | arr m e =>
              cases y with
              | agg k r =>
                simp [fitF] at g2
                refine ⟨.agg (cs.extract fd.offset (fd.offset + (Ty.arr m e).size)), hrun (by simp [part, isAgg_run k3, hfl, sizeOf_run k3]), _, rfl, ?_⟩
                rw [Array.toList_extract]
                simp only [List.extract, Nat.add_sub_cancel_left]
                have e1 : (cs.toList.drop fd.offset).take (Ty.arr m e).size = mid := by
                  rw [hcs2, ← hpre, List.drop_left, List.take_append_of_le_length (by rw [hml]; simp [V.len1, Ty.size]; omega), List.take_of_length_le (by rw [hml]; simp [V.len1, Ty.size]; omega)]
                rw [e1]
                exact hfm
              | _ => simp [fitF] at g2
            | _ => simp [fitF, Ty.flat] at *
    · cases hx
  · cases hx

theorem aMinMax_sound {mx : Bool} {x y v : V} {u1 u2 : Value} (hx : aMinMax mx x y = some v) (h1 : VRel c w x u1) (h2 : VRel c w y u2) (tys : Array Nat) (t : Nat) :
    ∃ u, (if mx = true then Builtin.max_ tys t #[u1, u2] else Builtin.min_ tys t #[u1, u2]).run P w = .ok u w ∧ VRel c w v u := by
  unfold aMinMax at hx
  split at hx
  · rename_i x a
    obtain ⟨hr1, rfl⟩ := inv_i h1
    split at hx
    · rename_i y b
      obtain ⟨hr2, rfl⟩ := inv_i h2
      cases hx
      cases mx with
      | true => refine ⟨_, by simp [Builtin.max_, Builtin.max2, ii], ?_, rfl⟩; simp only [if_true]; split <;> assumption
      | false => refine ⟨_, by simp [Builtin.min_, Builtin.min2, ii], ?_, rfl⟩; simp only [Bool.false_eq_true, if_false]; split <;> assumption
    · cases hx
  · rename_i x wd a
    obtain ⟨hw, rfl⟩ := inv_u h1
    split at hx
    · rename_i y wd' b
      by_cases e : wd' = wd
      · subst e
        rw [dif_pos rfl] at hx
        simp only [castB_rfl] at hx
        obtain ⟨_, rfl⟩ := inv_u h2
        cases hx
        cases mx with
        | true =>
          refine ⟨ic wd' (if a < b then b else a), ?_, hw, rfl⟩
          have : ((b.toNat : Int) > a.toNat) ↔ a < b := by rw [BitVec.lt_def]; omega
          simp only [Builtin.max_, Builtin.max2, ic, if_true, List.foldlM, Sem.run_bind, Sem.run_pure, this]
          by_cases hab : a < b <;> simp [hab]
        | false =>
          refine ⟨ic wd' (if b < a then b else a), ?_, hw, rfl⟩
          have : ((b.toNat : Int) < a.toNat) ↔ b < a := by rw [BitVec.lt_def]; omega
          simp only [Builtin.min_, Builtin.min2, ic, Bool.false_eq_true, if_false, List.foldlM, Sem.run_bind, Sem.run_pure, this]
          by_cases hab : b < a <;> simp [hab]
      · rw [dif_neg e] at hx; cases hx
    · cases hx
  · cases hx

end
end Go.Vm


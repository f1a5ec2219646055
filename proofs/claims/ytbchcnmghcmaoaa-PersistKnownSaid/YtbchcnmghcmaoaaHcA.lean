/- The heap calculus, part A: what one operation does to a heap, and that the machine does so. -/
import Derived.OrdersIn
import Derived.RangeFuncIn
import Derived.RangeFuncLeaves
import Derived.TacticsIn
import Derived.Tactics2
import Derived.WalkKit
set_option linter.unusedSimpArgs false
set_option linter.unusedVariables false
namespace Go.Hc
open Go

/-- What a world holds, but for how often it was asked. -/
structure Heap where
  arr : Array Obj
  tape : Nat → Question → Nat
  os : Os
  output : Array (Nat × ByteArray)
def _root_.Go.World.hp (w : World) : Heap := ⟨w.heap, w.tape, w.os, w.output⟩
def Heap.size (H : Heap) : Nat := H.arr.size
theorem hp_arr (w : World) : w.hp.arr = w.heap := rfl
theorem heap_ext {H H' : Heap} (h : ∀ i : Nat, H.arr[i]? = H'.arr[i]?) (ht : H.tape = H'.tape) (ho : H.os = H'.os) (hu : H.output = H'.output) : H = H' := by
  have := Array.ext_getElem? h
  cases H; cases H'; simp_all

/-- The fence that lets everything by, in a function's own frame or in a round's. -/
def Fr (r : Option Nat) : Fence := { fn := fun _ => True, depth := none, alive := false, round := r }

/-- 'f', called with 'args' at a heap H, comes back with a value and a heap of which Q holds. -/
def EvL (P : Program) (f : FuncId) (args : Array Value) (H : Heap) (Q : Value → Heap → Prop) : Prop :=
  (∀ w, (callFunc f args).run P w = .ok (.enter f args) w) ∧
  ∀ w : World, w.hp = H → Calls P f args w fun e w' => ∃ v, e = .returned v ∧ Q v w'.hp
/-- .. or it has no body, and answers at once. -/
def EvF (P : Program) (f : FuncId) (args : Array Value) (H : Heap) (Q : Value → Heap → Prop) : Prop :=
  EvL P f args H Q ∨ ∀ w : World, w.hp = H → ∃ v w', (callFunc f args).run P w = .ok (.value v) w' ∧ Q v w'.hp

theorem EvF.mono {P : Program} {f : FuncId} {args : Array Value} {H : Heap} {Q Q' : Value → Heap → Prop} (h : EvF P f args H Q) (hq : ∀ v H', Q v H' → Q' v H') :
    EvF P f args H Q' :=
  h.elim (fun h => .inl ⟨h.1, fun w hw => (h.2 w hw).mono fun _ _ ⟨v, he, hv⟩ => ⟨v, he, hq _ _ hv⟩⟩) fun h => .inr fun w hw => let ⟨v, w', h1, h2⟩ := h w hw; ⟨v, w', h1, hq _ _ h2⟩

/-- The loop l's round, called through yield. -/
def EvY (P : Program) (l : Nat) (args : Array Value) (H : Heap) (Q : Value → Heap → Prop) : Prop :=
  ∀ w : World, w.hp = H → ∃ fn tmps assign body, (Instr.yield l args).run P w = .ok (.round l fn tmps assign body) w ∧
    RoundIn Fence.wide 0 P l fn tmps assign body w fun e w' => ∃ v, e = .returned v ∧ Q v w'.hp

def bnd {α : Type} (o : Option α) (k : α → Prop) : Prop := ∃ v, o = some v ∧ k v
@[simp] theorem bnd_some {α : Type} (v : α) (k : α → Prop) : bnd (some v) k = k v := by simp [bnd]
@[simp] theorem bnd_none {α : Type} (k : α → Prop) : bnd none k = False := by simp [bnd]
theorem bnd_mono {α : Type} {o : Option α} {k k' : α → Prop} (h : bnd o k) (hk : ∀ v, k v → k' v) : bnd o k' := let ⟨v, a, b⟩ := h; ⟨v, a, hk _ b⟩
theorem bnd_congr {α : Type} {o o' : Option α} {k : α → Prop} (h : o = o') : bnd o k = bnd o' k := by rw [h]
theorem EvF_congr {P : Program} {f : FuncId} {a b : Array Value} {H H' : Heap} {Q : Value → Heap → Prop} (h : a = b) (h' : H = H') : EvF P f a H Q = EvF P f b H' Q := by rw [h, h']

/-- U: where c is no bool, but a slot that was left out. -/
def brG (c : Value) (A B U : Prop) : Prop := match c with | .bool true => A | .bool false => B | .tuple _ => U | _ => False
def brV (c : Value) (A B : Prop) : Prop := brG c A B False
theorem brG_cases {c : Value} {A B U : Prop} (h : brG c A B U) : (c = .bool true ∧ A) ∨ (c = .bool false ∧ B) ∨ ((∃ vs, c = .tuple vs) ∧ U) := by
  unfold brG at h
  split at h
  · exact .inl ⟨rfl, h⟩
  · exact .inr (.inl ⟨rfl, h⟩)
  · exact .inr (.inr ⟨⟨_, rfl⟩, h⟩)
  · exact h.elim
theorem brV_cases {c : Value} {A B : Prop} (h : brV c A B) : (c = .bool true ∧ A) ∨ (c = .bool false ∧ B) := by
  rcases brG_cases h with h | h | h
  · exact .inl h
  · exact .inr h
  · exact h.2.elim

/- what a table tells of a type -/
structure TI where
  info : TypeInfo
  desc : TypeDesc
/-- 'eqs': which struct and array types are compared cell by cell, and the mask. -/
structure Tab where
  ti : TypeId → Option TI
  eqs : TypeId → Option (List Bool)

def isAggD : TypeDesc → Bool
  | .struct _ | .array _ _ => true
  | _ => false

/-! ### values -/
def pickV (c a b : Value) : Option Value := match c with | .bool true => some a | .bool false => some b | _ => none
def pickE (c a b : Value) (H : Heap) (k : Value → Heap → Prop) : Prop := match c with | .bool true => k a H | .bool false => k b H | _ => False
def nilV : Value → Option Value
  | .pointer (some a) => some (.pointer (some a))
  | .func (.func f) x y => some (.func (.func f) x y)
  | .func (.yield f) x y => some (.func (.yield f) x y)
  | _ => none
def faV (off : Nat) : Value → Option Value
  | .pointer (some ⟨b, o, none⟩) => some (.pointer (some ⟨b, o + off, none⟩))
  | _ => none
def exV (i : Nat) : Value → Option Value
  | .tuple vs => vs[i]?
  | _ => none
def unV (op : UnOp) (x : Value) : Option Value :=
  match op, x with
  | .neg, .int k n => some (.int k (k.wrap (0 - n)))
  | .not, .bool b => some (.bool !b)
  | _, _ => none
def cellEq (isInt : Bool) (x y : Value) : Option Bool :=
  match isInt, x, y with
  | true, .int k a, .int k' b => if k = k' then some (a == b) else none
  | false, .bool a, .bool b => some (a == b)
  | _, _, _ => none
/-- Two rows of cells, held against each other: the mask says which are numbers, which bools. -/
def cellsEq : List Bool → List Value → List Value → Option Bool
  | [], [], [] => some true
  | m :: ms, x :: xs, y :: ys => match cellEq m x y with
    | some r => match cellsEq ms xs ys with
      | some s => some (r && s)
      | none => none
    | none => none
  | _, _, _ => none
/-- How two values are held against each other. -/
inductive EqM where
  | int | bool | ptr | slice | agg (m : List Bool)
def eqV (m : EqM) (x y : Value) : Option Bool :=
  match m, x, y with
  | .bool, .bool a, .bool b => some (a == b)
  | .ptr, .pointer none, .pointer b => some b.isNone
  | .ptr, .pointer (some _), .pointer none => some false
  | .slice, .slice none _ _, .slice b _ _ => some b.isNone
  | .slice, .slice (some _) _ _, .slice none _ _ => some false
  | .agg m, .agg a, .agg b => cellsEq m a.toList b.toList
  | _, _, _ => none
def intBin (op : BinOp) (k : IntKind) (a b : Int) : Option Value :=
  match op with
  | .add => some (.int k (k.wrap (a + b)))
  | .sub => some (.int k (k.wrap (a - b)))
  | .mul => some (.int k (k.wrap (a * b)))
  | .quo => if b = 0 then none else some (.int k (k.wrap (a.tdiv b)))
  | .rem => if b = 0 then none else some (.int k (a.tmod b))
  | .eql => some (.bool (a == b))
  | .neq => some (.bool (a != b))
  | .lss => some (.bool (a < b))
  | .leq => some (.bool (a ≤ b))
  | .gtr => some (.bool (a > b))
  | .geq => some (.bool (a ≥ b))
  | _ => none
def shV (op : BinOp) (k : IntKind) (a b : Int) : Option Value :=
  if b < 0 then none else
  match op with
  | .shl => some (.int k (k.wrap (a * 2 ^ (min b.toNat k.bits))))
  | .shr => some (.int k (a.fdiv (2 ^ (min b.toNat k.bits))))
  | _ => none
def notO : Option Bool → Option Value
  | some b => some (.bool !b)
  | none => none
def isO : Option Bool → Option Value
  | some b => some (.bool b)
  | none => none
def binV (m : EqM) (op : BinOp) (x y : Value) : Option Value :=
  match op, x, y with
  | .shl, .int k a, .int _ b => shV .shl k a b
  | .shr, .int k a, .int _ b => shV .shr k a b
  | op, .int k a, .int k' b => if k = k' then intBin op k a b else none
  | .eql, x, y => isO (eqV m x y)
  | .neq, x, y => notO (eqV m x y)
  | _, _, _ => none
def lenV : Value → Option Value
  | .slice _ n _ => some (.int .i64 n)
  | _ => none
def capV : Value → Option Value
  | .slice _ _ n => some (.int .i64 n)
  | _ => none
def min2V : Value → Value → Option Value
  | .int k x, .int _ y => some (.int k (if y < x then y else x))
  | _, _ => none
def max2V : Value → Value → Option Value
  | .int k x, .int _ y => some (.int k (if y > x then y else x))
  | _, _ => none
def foldV (f : Value → Value → Option Value) : Value → List Value → Option Value
  | x, [] => some x
  | x, y :: l => match f x y with | some z => foldV f z l | none => none
def cvV (k : IntKind) : Value → Option Value
  | .int _ n => some (.int k (k.wrap n))
  | _ => none
/-- The address of x[i]: an array's address or a slice; 'size': an element's cells. -/
def ixSV (size : Nat) (x i : Value) : Option Value :=
  match x, i with
  | .slice (some ⟨b, o, none⟩) n _, .int _ j => if 0 ≤ j ∧ j < (n : Int) then some (.pointer (some ⟨b, o + j.toNat * size, none⟩)) else none
  | _, _ => none
def ixAV (size len : Nat) (x i : Value) : Option Value :=
  match x, i with
  | .pointer (some ⟨b, o, none⟩), .int _ j => if 0 ≤ j ∧ j < (len : Int) then some (.pointer (some ⟨b, o + j.toNat * size, none⟩)) else none
  | _, _ => none
def partV (agg : Bool) (size off : Nat) (cs : Array Value) : Option Value :=
  if agg then some (.agg (cs.extract off (off + size))) else cs[off]?
def fieldV (agg : Bool) (size off : Nat) : Value → Option Value
  | .agg cs => partV agg size off cs
  | _ => none
def indexV (agg : Bool) (size len : Nat) (x i : Value) : Option Value :=
  match x, i with
  | .agg cs, .int _ j => if 0 ≤ j ∧ j < (len : Int) then partV agg size (j.toNat * size) cs else none
  | _, _ => none
def boundV (d : Nat) (hi : Nat) : Option Value → Option Nat
  | none => some d
  | some (.int _ i) => if 0 ≤ i ∧ i ≤ (hi : Int) then some i.toNat else none
  | some _ => none
/-- x[lo:hi] of a slice. -/
def sliceV (size : Nat) (x : Value) (lo hi : Option Value) : Option Value :=
  match x with
  | .slice a len cap =>
    match boundV len cap hi with
    | none => none
    | some h => match boundV 0 h lo with
      | none => none
      | some l =>
        if cap = l then some (.slice a (h - l) (cap - l)) else
        match a with
        | some ⟨_, _, some _⟩ => none
        | _ => some (.slice (a.map fun a => ⟨a.block, a.off + l * size, none⟩) (h - l) (cap - l))
  | _ => none

/-! ### the heap -/
def isCell : Value → Bool
  | .agg _ | .tuple _ => false
  | _ => true
/-- A block's cells. -/
def blk (H : Heap) (b : Nat) : Option (Array Value) :=
  match H.arr[b]? with
  | some (.cells c _ _) => some c
  | _ => none
/-- A block that may be written: no string shares its bytes. -/
def own (H : Heap) (b : Nat) : Option (Array Value) :=
  match H.arr[b]? with
  | some (.cells c _ (lo, hi)) => if hi ≤ lo then some c else none
  | _ => none
def getC (c : Array Value) (o n : Nat) : Option (Array Value) := if o + n ≤ c.size then some (c.extract o (o + n)) else none
def rdA (H : Heap) (b o n : Nat) : Option (Array Value) :=
  match blk H b with
  | some c => getC c o n
  | none => none
def ldE (agg : Bool) (n : Nat) (x : Value) (H : Heap) : Option Value :=
  match x with
  | .pointer (some ⟨b, o, none⟩) =>
    if agg then (match rdA H b o n with | some cs => some (.agg cs) | none => none)
    else (match blk H b with | some c => c[o]? | none => none)
  | _ => none
def splice (c : Array Value) (o : Nat) : List Value → Array Value
  | [] => c
  | v :: l => splice (c.setIfInBounds o v) (o + 1) l
def setB (H : Heap) (b : Nat) (c : Array Value) : Heap :=
  { H with arr := H.arr.modify b fun
      | .cells _ e f => .cells c e f
      | o => o }
/-- cells are written from an address on -/
def wrA (H : Heap) (b o : Nat) (l : List Value) : Option Heap :=
  match own H b with
  | some c => if o + l.length ≤ c.size ∧ l.all isCell then some (setB H b (splice c o l)) else none
  | none => none
def stE (n : Nat) (x v : Value) (H : Heap) : Option Heap :=
  match x with
  | .pointer (some ⟨b, o, none⟩) => if v.cells.size = n then wrA H b o v.cells.toList else none
  | _ => none
def newB (H : Heap) (t : TypeId) (c : Array Value) : Heap := { H with arr := H.arr.push (.cells c t) }
def adr (H : Heap) : Value := .pointer (some ⟨H.size, 0, none⟩)
/-- n elements at their zero value -/
def repZ (zero : Array Value) (n : Nat) : Array Value := (List.replicate n zero.toList).flatten.toArray
def fillA (place : Nat → Option (Nat × Nat)) (cells : Array Value) : List (Nat × Value) → Option (Array Value)
  | [] => some cells
  | (i, v) :: rest =>
    match place i with
    | some (off, sz) => if v.cells.size = sz ∧ off + sz ≤ cells.size then fillA place (splice cells off v.cells.toList) rest else none
    | none => none
def buildV (zero : Array Value) (place : Nat → Option (Nat × Nat)) (parts : List (Nat × Value)) : Option Value :=
  match fillA place zero parts with
  | some cs => some (.agg cs)
  | none => none
def places (l : List (Nat × Nat)) (i : Nat) : Option (Nat × Nat) := l[i]?
def every (size : Nat) (i : Nat) : Option (Nat × Nat) := some (i * size, size)
/-- a slice of 'len' elements is laid -/
def bslE (t : TypeId) (zero : Array Value) (size len : Nat) (parts : List (Nat × Value)) (H : Heap) (k : Value → Heap → Prop) : Prop :=
  len * size ≤ 2 ^ 24 ∧ bnd (fillA (every size) (repZ zero len) parts) fun cs => k (.slice (some ⟨H.size, 0, none⟩) len len) (newB H t cs)
def mslE (t : TypeId) (zero : Array Value) (bytes : Nat) (l c : Value) (H : Heap) (k : Value → Heap → Prop) : Prop :=
  match l, c with
  | .int _ l, .int _ c => (0 ≤ l ∧ l ≤ c ∧ c ≤ 2 ^ 48 ∧ (bytes : Int) * c ≤ 2 ^ 48) ∧ k (.slice (some ⟨H.size, 0, none⟩) l.toNat c.toNat) (newB H t (repZ zero c.toNat))
  | _, _ => False
/-- x[lo:hi:mx] -/
def sliceV3 (size : Nat) (x : Value) (lo : Option Value) (hi mx : Value) : Option Value :=
  match x with
  | .slice a len cap =>
    match a with
    | some ⟨_, _, some _⟩ => none
    | _ =>
    match boundV cap cap (some mx) with
    | none => none
    | some m => match boundV len m (some hi) with
      | none => none
      | some h => match boundV 0 h lo with
        | none => none
        | some l => some (.slice (if m = l then a else a.map fun a => ⟨a.block, a.off + l * size, none⟩) (h - l) (m - l))
  | _ => none
def rdS (H : Heap) (size n : Nat) : Option Addr → Option (Array Value)
  | none => some #[]
  | some ⟨b, o, none⟩ => rdA H b o (n * size)
  | some ⟨_, _, some _⟩ => none
def wrS (H : Heap) (o : Nat) (l : List Value) : Option Addr → Option Heap
  | none => some H
  | some ⟨b, o', none⟩ => wrA H b (o' + o) l
  | some ⟨_, _, some _⟩ => none
def appE (t : TypeId) (zero : Array Value) (size bytes : Nat) (s x : Value) (H : Heap) (k : Value → Heap → Prop) : Prop :=
  match s, x with
  | .slice base n cap, .slice xb m _ =>
    bnd (rdS H size m xb) fun new =>
    if n + m ≤ cap then bnd (wrS H (n * size) new.toList base) fun H' => k (.slice base (n + m) cap) H'
    else bnd (rdS H size n base) fun old =>
      ((2 * (n + m) + 200) * bytes ≤ 2 ^ 48 ∧ bytes ≠ 0) ∧
      ∀ c, n + m ≤ c → c < 2 ^ 63 → k (.slice (some ⟨H.size, 0, none⟩) (n + m) c) (newB H t (old ++ new ++ repZ zero (c - (n + m))))
  | _, _ => False
/-- append(s, make(S, x)...) -/
def appZE (t : TypeId) (zero : Array Value) (size bytes : Nat) (s x : Value) (H : Heap) (k : Value → Heap → Prop) : Prop :=
  match s, x with
  | .slice base n cap, .int _ j =>
    (0 ≤ j ∧ j ≤ 2 ^ 48 ∧ j * (bytes : Int) ≤ 2 ^ 48) ∧
    if n + j.toNat ≤ cap then bnd (wrS H (n * size) (repZ zero j.toNat).toList base) fun H' => k (.slice base (n + j.toNat) cap) H'
    else bnd (rdS H size n base) fun old =>
      ((2 * (n + j.toNat) + 200) * bytes ≤ 2 ^ 48 ∧ bytes ≠ 0) ∧
      ∀ c, n + j.toNat ≤ c → c < 2 ^ 63 → k (.slice (some ⟨H.size, 0, none⟩) (n + j.toNat) c) (newB H t (old ++ repZ zero j.toNat ++ repZ zero (c - (n + j.toNat))))
  | _, _ => False
def cpyE (size : Nat) (d s : Value) (H : Heap) (k : Value → Heap → Prop) : Prop :=
  match d, s with
  | .slice base n _, .slice sb m _ =>
    bnd (rdS H size (Nat.min m n) sb) fun cs => bnd (wrS H 0 cs.toList base) fun H' => k (.int .i64 (Nat.min m n : Nat)) H'
  | _, _ => False
def clrE (zero : Array Value) (x : Value) (H : Heap) (k : Value → Heap → Prop) : Prop :=
  match x with
  | .slice none _ _ => k (.tuple #[]) H
  | .slice (some ⟨b, o, none⟩) n _ => if n = 0 then k (.tuple #[]) H else bnd (wrA H b o (repZ zero n).toList) fun H' => k (.tuple #[]) H'
  | _ => False
end Go.Hc

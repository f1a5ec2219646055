/- The heap calculus, part A: what one operation does to a heap, and that the machine does so. -/
import Derived.OrdersIn
import Derived.RangeFuncIn
import Derived.RangeFuncLeaves
import Derived.TacticsIn
import Derived.Tactics2
import Derived.WalkKit
import Derived.Laws.StructEq
import Derived.ChangeKeysEq
set_option linter.unusedSimpArgs false
set_option linter.unusedVariables false
namespace Go.Hc
open Go

/-- What a world holds, but for how often it was asked. -/
structure Heap where
  arr : Array Obj
  tape : Nat → Question → Nat
  os : Os
  output : Array (Nat × ByteArray)
def _root_.Go.World.hp (w : World) : Heap := ⟨w.heap, w.tape, w.os, w.output⟩
def Heap.size (H : Heap) : Nat := H.arr.size
theorem hp_arr (w : World) : w.hp.arr = w.heap := rfl
theorem heap_ext {H H' : Heap} (h : ∀ i : Nat, H.arr[i]? = H'.arr[i]?) (ht : H.tape = H'.tape) (ho : H.os = H'.os) (hu : H.output = H'.output) : H = H' := by
  have := Array.ext_getElem? h
  cases H; cases H'; simp_all

/-- The fence that lets everything by, in a function's own frame or in a round's. -/
def Fr (r : Option Nat) : Fence := { fn := fun _ => True, depth := none, alive := false, round := r }

/-- 'f', called with 'args' at a heap H, comes back with a value and a heap of which Q holds. -/
def EvL (P : Program) (f : FuncId) (args : Array Value) (H : Heap) (Q : Value → Heap → Prop) : Prop :=
  (∀ w, (callFunc f args).run P w = .ok (.enter f args) w) ∧
  ∀ w : World, w.hp = H → Calls P f args w fun e w' => ∃ v, e = .returned v ∧ Q v w'.hp
/-- .. or it has no body, and answers at once. -/
def EvF (P : Program) (f : FuncId) (args : Array Value) (H : Heap) (Q : Value → Heap → Prop) : Prop :=
  EvL P f args H Q ∨ ∀ w : World, w.hp = H → ∃ v w', (callFunc f args).run P w = .ok (.value v) w' ∧ Q v w'.hp

theorem EvF.mono {P : Program} {f : FuncId} {args : Array Value} {H : Heap} {Q Q' : Value → Heap → Prop} (h : EvF P f args H Q) (hq : ∀ v H', Q v H' → Q' v H') :
    EvF P f args H Q' :=
  h.elim (fun h => .inl ⟨h.1, fun w hw => (h.2 w hw).mono fun _ _ ⟨v, he, hv⟩ => ⟨v, he, hq _ _ hv⟩⟩) fun h => .inr fun w hw => let ⟨v, w', h1, h2⟩ := h w hw; ⟨v, w', h1, hq _ _ h2⟩

/-- The loop l's round, called through yield. -/
def EvY (P : Program) (l : Nat) (args : Array Value) (H : Heap) (Q : Value → Heap → Prop) : Prop :=
  ∀ w : World, w.hp = H → ∃ fn tmps assign body, (Instr.yield l args).run P w = .ok (.round l fn tmps assign body) w ∧
    RoundIn Fence.wide 0 P l fn tmps assign body w fun e w' => ∃ v, e = .returned v ∧ Q v w'.hp

def bnd {α : Type} (o : Option α) (k : α → Prop) : Prop := ∃ v, o = some v ∧ k v
@[simp] theorem bnd_some {α : Type} (v : α) (k : α → Prop) : bnd (some v) k = k v := by simp [bnd]
@[simp] theorem bnd_none {α : Type} (k : α → Prop) : bnd none k = False := by simp [bnd]
theorem bnd_mono {α : Type} {o : Option α} {k k' : α → Prop} (h : bnd o k) (hk : ∀ v, k v → k' v) : bnd o k' := let ⟨v, a, b⟩ := h; ⟨v, a, hk _ b⟩
theorem bnd_congr {α : Type} {o o' : Option α} {k : α → Prop} (h : o = o') : bnd o k = bnd o' k := by rw [h]
theorem EvF_congr {P : Program} {f : FuncId} {a b : Array Value} {H H' : Heap} {Q : Value → Heap → Prop} (h : a = b) (h' : H = H') : EvF P f a H Q = EvF P f b H' Q := by rw [h, h']

/-- U: where c is no bool, but a slot that was left out. -/
def brG (c : Value) (A B U : Prop) : Prop := match c with | .bool true => A | .bool false => B | .tuple _ => U | _ => False
def brV (c : Value) (A B : Prop) : Prop := brG c A B False
theorem brG_cases {c : Value} {A B U : Prop} (h : brG c A B U) : (c = .bool true ∧ A) ∨ (c = .bool false ∧ B) ∨ ((∃ vs, c = .tuple vs) ∧ U) := by
  unfold brG at h
  split at h
  · exact .inl ⟨rfl, h⟩
  · exact .inr (.inl ⟨rfl, h⟩)
  · exact .inr (.inr ⟨⟨_, rfl⟩, h⟩)
  · exact h.elim
theorem brV_cases {c : Value} {A B : Prop} (h : brV c A B) : (c = .bool true ∧ A) ∨ (c = .bool false ∧ B) := by
  rcases brG_cases h with h | h | h
  · exact .inl h
  · exact .inr h
  · exact h.2.elim

/- what a table tells of a type -/
structure TI where
  info : TypeInfo
  desc : TypeDesc
/-- 'eqs': which struct and array types are compared cell by cell, and the mask. -/
structure Tab where
  ti : TypeId → Option TI
  eqs : TypeId → Option (List Bool)

def isAggD : TypeDesc → Bool
  | .struct _ | .array _ _ => true
  | _ => false

/-! ### values -/
def pickV (c a b : Value) : Option Value := match c with | .bool true => some a | .bool false => some b | _ => none
def pickE (c a b : Value) (H : Heap) (k : Value → Heap → Prop) : Prop := match c with | .bool true => k a H | .bool false => k b H | _ => False
def nilV : Value → Option Value
  | .pointer (some a) => some (.pointer (some a))
  | .func (.func f) x y => some (.func (.func f) x y)
  | .func (.yield f) x y => some (.func (.yield f) x y)
  | _ => none
def faV (off : Nat) : Value → Option Value
  | .pointer (some ⟨b, o, none⟩) => some (.pointer (some ⟨b, o + off, none⟩))
  | _ => none
def exV (i : Nat) : Value → Option Value
  | .tuple vs => vs[i]?
  | _ => none
def unV (op : UnOp) (x : Value) : Option Value :=
  match op, x with
  | .neg, .int k n => some (.int k (k.wrap (0 - n)))
  | .not, .bool b => some (.bool !b)
  | _, _ => none
def cellEq (isInt : Bool) (x y : Value) : Option Bool :=
  match isInt, x, y with
  | true, .int k a, .int k' b => if k = k' then some (a == b) else none
  | false, .bool a, .bool b => some (a == b)
  | _, _, _ => none
/-- Two rows of cells, held against each other: the mask says which are numbers, which bools. -/
def cellsEq : List Bool → List Value → List Value → Option Bool
  | [], [], [] => some true
  | m :: ms, x :: xs, y :: ys => match cellEq m x y with
    | some r => match cellsEq ms xs ys with
      | some s => some (r && s)
      | none => none
    | none => none
  | _, _, _ => none
/-- How two values are held against each other. -/
inductive EqM where
  | int | bool | ptr | slice | agg (m : List Bool)
def eqV (m : EqM) (x y : Value) : Option Bool :=
  match m, x, y with
  | .bool, .bool a, .bool b => some (a == b)
  | .ptr, .pointer none, .pointer b => some b.isNone
  | .ptr, .pointer (some _), .pointer none => some false
  | .slice, .slice none _ _, .slice b _ _ => some b.isNone
  | .slice, .slice (some _) _ _, .slice none _ _ => some false
  | .agg m, .agg a, .agg b => cellsEq m a.toList b.toList
  | _, _, _ => none
def intBin (op : BinOp) (k : IntKind) (a b : Int) : Option Value :=
  match op with
  | .add => some (.int k (k.wrap (a + b)))
  | .sub => some (.int k (k.wrap (a - b)))
  | .mul => some (.int k (k.wrap (a * b)))
  | .quo => if b = 0 then none else some (.int k (k.wrap (a.tdiv b)))
  | .rem => if b = 0 then none else some (.int k (a.tmod b))
  | .eql => some (.bool (a == b))
  | .neq => some (.bool (a != b))
  | .lss => some (.bool (a < b))
  | .leq => some (.bool (a ≤ b))
  | .gtr => some (.bool (a > b))
  | .geq => some (.bool (a ≥ b))
  | _ => none
def shV (op : BinOp) (k : IntKind) (a b : Int) : Option Value :=
  if b < 0 then none else
  match op with
  | .shl => some (.int k (k.wrap (a * 2 ^ (min b.toNat k.bits))))
  | .shr => some (.int k (a.fdiv (2 ^ (min b.toNat k.bits))))
  | _ => none
def notO : Option Bool → Option Value
  | some b => some (.bool !b)
  | none => none
def isO : Option Bool → Option Value
  | some b => some (.bool b)
  | none => none
def binV (m : EqM) (op : BinOp) (x y : Value) : Option Value :=
  match op, x, y with
  | .shl, .int k a, .int _ b => shV .shl k a b
  | .shr, .int k a, .int _ b => shV .shr k a b
  | op, .int k a, .int k' b => if k = k' then intBin op k a b else none
  | .eql, x, y => isO (eqV m x y)
  | .neq, x, y => notO (eqV m x y)
  | _, _, _ => none
def lenV : Value → Option Value
  | .slice _ n _ => some (.int .i64 n)
  | _ => none
def capV : Value → Option Value
  | .slice _ _ n => some (.int .i64 n)
  | _ => none
def min2V : Value → Value → Option Value
  | .int k x, .int _ y => some (.int k (if y < x then y else x))
  | _, _ => none
def max2V : Value → Value → Option Value
  | .int k x, .int _ y => some (.int k (if y > x then y else x))
  | _, _ => none
def foldV (f : Value → Value → Option Value) : Value → List Value → Option Value
  | x, [] => some x
  | x, y :: l => match f x y with | some z => foldV f z l | none => none
def cvV (k : IntKind) : Value → Option Value
  | .int _ n => some (.int k (k.wrap n))
  | _ => none
/-- The address of x[i]: an array's address or a slice; 'size': an element's cells. -/
def ixSV (size : Nat) (x i : Value) : Option Value :=
  match x, i with
  | .slice (some ⟨b, o, none⟩) n _, .int _ j => if 0 ≤ j ∧ j < (n : Int) then some (.pointer (some ⟨b, o + j.toNat * size, none⟩)) else none
  | _, _ => none
def ixAV (size len : Nat) (x i : Value) : Option Value :=
  match x, i with
  | .pointer (some ⟨b, o, none⟩), .int _ j => if 0 ≤ j ∧ j < (len : Int) then some (.pointer (some ⟨b, o + j.toNat * size, none⟩)) else none
  | _, _ => none
def partV (agg : Bool) (size off : Nat) (cs : Array Value) : Option Value :=
  if agg then some (.agg (cs.extract off (off + size))) else cs[off]?
def fieldV (agg : Bool) (size off : Nat) : Value → Option Value
  | .agg cs => partV agg size off cs
  | _ => none
def indexV (agg : Bool) (size len : Nat) (x i : Value) : Option Value :=
  match x, i with
  | .agg cs, .int _ j => if 0 ≤ j ∧ j < (len : Int) then partV agg size (j.toNat * size) cs else none
  | _, _ => none
def boundV (d : Nat) (hi : Nat) : Option Value → Option Nat
  | none => some d
  | some (.int _ i) => if 0 ≤ i ∧ i ≤ (hi : Int) then some i.toNat else none
  | some _ => none
/-- x[lo:hi] of a slice. -/
def sliceV (size : Nat) (x : Value) (lo hi : Option Value) : Option Value :=
  match x with
  | .slice a len cap =>
    match boundV len cap hi with
    | none => none
    | some h => match boundV 0 h lo with
      | none => none
      | some l =>
        if cap = l then some (.slice a (h - l) (cap - l)) else
        match a with
        | some ⟨_, _, some _⟩ => none
        | _ => some (.slice (a.map fun a => ⟨a.block, a.off + l * size, none⟩) (h - l) (cap - l))
  | _ => none

/-! ### the heap -/
def isCell : Value → Bool
  | .agg _ | .tuple _ => false
  | _ => true
/-- A block's cells. -/
def blk (H : Heap) (b : Nat) : Option (Array Value) :=
  match H.arr[b]? with
  | some (.cells c _ _) => some c
  | _ => none
/-- A block that may be written: no string shares its bytes. -/
def own (H : Heap) (b : Nat) : Option (Array Value) :=
  match H.arr[b]? with
  | some (.cells c _ (lo, hi)) => if hi ≤ lo then some c else none
  | _ => none
def getC (c : Array Value) (o n : Nat) : Option (Array Value) := if o + n ≤ c.size then some (c.extract o (o + n)) else none
def rdA (H : Heap) (b o n : Nat) : Option (Array Value) :=
  match blk H b with
  | some c => getC c o n
  | none => none
def ldE (agg : Bool) (n : Nat) (x : Value) (H : Heap) : Option Value :=
  match x with
  | .pointer (some ⟨b, o, none⟩) =>
    if agg then (match rdA H b o n with | some cs => some (.agg cs) | none => none)
    else (match blk H b with | some c => c[o]? | none => none)
  | _ => none
def splice (c : Array Value) (o : Nat) : List Value → Array Value
  | [] => c
  | v :: l => splice (c.setIfInBounds o v) (o + 1) l
def setB (H : Heap) (b : Nat) (c : Array Value) : Heap :=
  { H with arr := H.arr.modify b fun
      | .cells _ e f => .cells c e f
      | o => o }
/-- cells are written from an address on -/
def wrA (H : Heap) (b o : Nat) (l : List Value) : Option Heap :=
  match own H b with
  | some c => if o + l.length ≤ c.size ∧ l.all isCell then some (setB H b (splice c o l)) else none
  | none => none
def stE (n : Nat) (x v : Value) (H : Heap) : Option Heap :=
  match x with
  | .pointer (some ⟨b, o, none⟩) => if v.cells.size = n then wrA H b o v.cells.toList else none
  | _ => none
def newB (H : Heap) (t : TypeId) (c : Array Value) : Heap := { H with arr := H.arr.push (.cells c t) }
def adr (H : Heap) : Value := .pointer (some ⟨H.size, 0, none⟩)
/-- n elements at their zero value -/
def repZ (zero : Array Value) (n : Nat) : Array Value := (List.replicate n zero.toList).flatten.toArray
def fillA (place : Nat → Option (Nat × Nat)) (cells : Array Value) : List (Nat × Value) → Option (Array Value)
  | [] => some cells
  | (i, v) :: rest =>
    match place i with
    | some (off, sz) => if v.cells.size = sz ∧ off + sz ≤ cells.size then fillA place (splice cells off v.cells.toList) rest else none
    | none => none
def buildV (zero : Array Value) (place : Nat → Option (Nat × Nat)) (parts : List (Nat × Value)) : Option Value :=
  match fillA place zero parts with
  | some cs => some (.agg cs)
  | none => none
def places (l : List (Nat × Nat)) (i : Nat) : Option (Nat × Nat) := l[i]?
def every (size : Nat) (i : Nat) : Option (Nat × Nat) := some (i * size, size)
/-- a slice of 'len' elements is laid -/
def bslE (t : TypeId) (zero : Array Value) (size len : Nat) (parts : List (Nat × Value)) (H : Heap) (k : Value → Heap → Prop) : Prop :=
  len * size ≤ 2 ^ 24 ∧ bnd (fillA (every size) (repZ zero len) parts) fun cs => k (.slice (some ⟨H.size, 0, none⟩) len len) (newB H t cs)
def mslE (t : TypeId) (zero : Array Value) (bytes : Nat) (l c : Value) (H : Heap) (k : Value → Heap → Prop) : Prop :=
  match l, c with
  | .int _ l, .int _ c => (0 ≤ l ∧ l ≤ c ∧ c ≤ 2 ^ 48 ∧ (bytes : Int) * c ≤ 2 ^ 48) ∧ k (.slice (some ⟨H.size, 0, none⟩) l.toNat c.toNat) (newB H t (repZ zero c.toNat))
  | _, _ => False
/-- x[lo:hi:mx] -/
def sliceV3 (size : Nat) (x : Value) (lo : Option Value) (hi mx : Value) : Option Value :=
  match x with
  | .slice a len cap =>
    match a with
    | some ⟨_, _, some _⟩ => none
    | _ =>
    match boundV cap cap (some mx) with
    | none => none
    | some m => match boundV len m (some hi) with
      | none => none
      | some h => match boundV 0 h lo with
        | none => none
        | some l => some (.slice (if m = l then a else a.map fun a => ⟨a.block, a.off + l * size, none⟩) (h - l) (m - l))
  | _ => none
def rdS (H : Heap) (size n : Nat) : Option Addr → Option (Array Value)
  | none => some #[]
  | some ⟨b, o, none⟩ => rdA H b o (n * size)
  | some ⟨_, _, some _⟩ => none
def wrS (H : Heap) (o : Nat) (l : List Value) : Option Addr → Option Heap
  | none => some H
  | some ⟨b, o', none⟩ => wrA H b (o' + o) l
  | some ⟨_, _, some _⟩ => none
def appE (t : TypeId) (zero : Array Value) (size bytes : Nat) (s x : Value) (H : Heap) (k : Value → Heap → Prop) : Prop :=
  match s, x with
  | .slice base n cap, .slice xb m _ =>
    bnd (rdS H size m xb) fun new =>
    if n + m ≤ cap then bnd (wrS H (n * size) new.toList base) fun H' => k (.slice base (n + m) cap) H'
    else bnd (rdS H size n base) fun old =>
      ((2 * (n + m) + 200) * bytes ≤ 2 ^ 48 ∧ bytes ≠ 0) ∧
      ∀ c, n + m ≤ c → c < 2 ^ 63 → k (.slice (some ⟨H.size, 0, none⟩) (n + m) c) (newB H t (old ++ new ++ repZ zero (c - (n + m))))
  | _, _ => False
/-- append(s, make(S, x)...) -/
def appZE (t : TypeId) (zero : Array Value) (size bytes : Nat) (s x : Value) (H : Heap) (k : Value → Heap → Prop) : Prop :=
  match s, x with
  | .slice base n cap, .int _ j =>
    (0 ≤ j ∧ j ≤ 2 ^ 48 ∧ j * (bytes : Int) ≤ 2 ^ 48) ∧
    if n + j.toNat ≤ cap then bnd (wrS H (n * size) (repZ zero j.toNat).toList base) fun H' => k (.slice base (n + j.toNat) cap) H'
    else bnd (rdS H size n base) fun old =>
      ((2 * (n + j.toNat) + 200) * bytes ≤ 2 ^ 48 ∧ bytes ≠ 0) ∧
      ∀ c, n + j.toNat ≤ c → c < 2 ^ 63 → k (.slice (some ⟨H.size, 0, none⟩) (n + j.toNat) c) (newB H t (old ++ repZ zero j.toNat ++ repZ zero (c - (n + j.toNat))))
  | _, _ => False
def cpyE (size : Nat) (d s : Value) (H : Heap) (k : Value → Heap → Prop) : Prop :=
  match d, s with
  | .slice base n _, .slice sb m _ =>
    bnd (rdS H size (Nat.min m n) sb) fun cs => bnd (wrS H 0 cs.toList base) fun H' => k (.int .i64 (Nat.min m n : Nat)) H'
  | _, _ => False
def clrE (zero : Array Value) (x : Value) (H : Heap) (k : Value → Heap → Prop) : Prop :=
  match x with
  | .slice none _ _ => k (.tuple #[]) H
  | .slice (some ⟨b, o, none⟩) n _ => if n = 0 then k (.tuple #[]) H else bnd (wrA H b o (repZ zero n).toList) fun H' => k (.tuple #[]) H'
  | _ => False
end Go.Hc
set_option linter.unusedSimpArgs false
set_option linter.unusedVariables false
namespace Go.Hc
open Go

section
variable {P : Program} {w : World}

theorem under_run {t : TypeId} {d : TypeDesc} (h : P.underlying t = some d) : (underlying t).run P w = .ok d w := by
  simp [underlying, go_sem, h]
theorem info_run {t : TypeId} {i : TypeInfo} (h : P.info? t = some i) : (typeInfo t).run P w = .ok i w := by
  simp [typeInfo, go_sem, h]
theorem size_run {t : TypeId} {i : TypeInfo} (h : P.info? t = some i) : (sizeOf t).run P w = .ok i.size w := by
  simp [sizeOf, go_sem, info_run h]
theorem zero_run {t : TypeId} {i : TypeInfo} {v : Value} (h : P.info? t = some i) (hz : i.zero = some v) : (zeroValue t).run P w = .ok v w := by
  simp [zeroValue, go_sem, info_run h, hz]
theorem agg_run {t : TypeId} {d : TypeDesc} (h : P.underlying t = some d) : (isAgg t).run P w = .ok (isAggD d) w := by
  simp only [isAgg, Sem.run_bind, under_run h, Result.andThen]
  cases d <;> simp [isAggD, go_sem]

theorem cell_of_blk {b o : Nat} {c : Array Value} {v : Value} (h : blk w.hp b = some c) (hv : c[o]? = some v) : w.cell? ⟨b, o, none⟩ = some v := by
  unfold blk at h
  unfold World.cell?
  split at h
  · rename_i hb; cases h; rw [hp_arr] at hb; simp [hb, hv]
  · cases h

theorem loadFrom_run {b o : Nat} {c : Array Value} (hc : blk w.hp b = some c) : ∀ (n i : Nat) (acc : Array Value), o + i + n ≤ c.size →
    (loadCellsFrom ⟨b, o, none⟩ i n acc).run P w = .ok (acc ++ c.extract (o + i) (o + i + n)) w := by
  intro n
  induction n with
  | zero => intro i acc h; simp [loadCellsFrom, go_sem]; omega
  | succ n ih =>
    intro i acc h
    have hlt : o + i < c.size := by omega
    have hcell : w.cell? (Addr.add ⟨b, o, none⟩ i) = some c[o + i] := by
      have : Addr.add ⟨b, o, none⟩ i = ⟨b, o + i, none⟩ := by
        unfold Addr.add; split <;> simp_all
      rw [this]; exact cell_of_blk hc (by simp [hlt])
    simp only [loadCellsFrom, load, Sem.run_bind]
    simp only [Sem.run, hcell, Result.andThen]
    rw [ih (i + 1) _ (by omega)]
    congr 1
    apply Array.ext'
    simp [Array.toList_extract, List.extract]
    rw [show o + (i + 1) = o + i + 1 from by omega, List.drop_eq_getElem_cons (i := o + i) (by simpa using hlt)]
    simp
theorem rdA_run {b o n : Nat} {cs : Array Value} (h : rdA w.hp b o n = some cs) : (loadCells ⟨b, o, none⟩ n).run P w = .ok cs w := by
  unfold rdA at h
  split at h
  · rename_i c hc
    unfold getC at h
    split at h
    · cases h
      rw [loadCells, loadFrom_run hc _ _ _ (by omega)]; simp
    · cases h
  · cases h
theorem ldE_run {t : TypeId} {i : TypeInfo} {d : TypeDesc} {x v : Value} (hi : P.info? t = some i) (hd : P.underlying t = some d)
    (h : ldE (isAggD d) i.size x w.hp = some v) : (Instr.loadAt t x).run P w = .ok v w := by
  unfold ldE at h
  split at h
  · rename_i b o
    simp only [Instr.loadAt, Instr.sureAddr, Sem.run_bind, Sem.run_pure, Result.andThen, loadVar, agg_run hd]
    cases hg : isAggD d
    · simp only [hg, if_false, Bool.false_eq_true] at h ⊢
      split at h
      · rename_i c hc
        simp only [load, Sem.run, cell_of_blk hc h]
      · cases h
    · simp only [hg, if_true] at h ⊢
      split at h
      · rename_i cs hcs
        cases h
        simp only [Sem.run_bind, size_run hi, Result.andThen, rdA_run hcs, Sem.run_pure]
      · cases h
  · cases h

theorem own_blk {H : Heap} {b : Nat} {c : Array Value} (h : own H b = some c) : blk H b = some c := by
  unfold own at h; unfold blk
  split at h
  · rename_i hb; split at h
    · cases h; simp [hb]
    · cases h
  · cases h
theorem own_frozen {b o : Nat} {c : Array Value} (h : own w.hp b = some c) : w.frozen? ⟨b, o, none⟩ = false := by
  unfold own at h; unfold World.frozen?
  split at h
  · rename_i hb; split at h
    · rw [hp_arr] at hb; simp [hb]; omega
    · cases h
  · cases h
theorem size_setB (H : Heap) (b : Nat) (c : Array Value) : (setB H b c).size = H.size := by simp [setB, Heap.size]
theorem own_lt {H : Heap} {b : Nat} {c : Array Value} (h : own H b = some c) : b < H.size := by
  unfold own at h; split at h
  · rename_i hb; exact (Array.getElem?_eq_some_iff.1 hb).1
  · cases h
theorem blk_lt {H : Heap} {b : Nat} {c : Array Value} (h : blk H b = some c) : b < H.size := by
  unfold blk at h; split at h
  · rename_i hb; exact (Array.getElem?_eq_some_iff.1 hb).1
  · cases h
theorem own_setB_same {H : Heap} {b : Nat} {c c' : Array Value} (h : own H b = some c) : own (setB H b c') b = some c' := by
  have hlt := own_lt h
  unfold own at h ⊢
  split at h
  · rename_i hb
    split at h
    · rename_i hle
      unfold setB; rw [Array.getElem?_modify]; simp [hb, hle]
    · cases h
  · cases h
theorem own_setB_ne {H : Heap} {b b' : Nat} {c' : Array Value} (h : b' ≠ b) : own (setB H b c') b' = own H b' := by
  unfold own setB; rw [Array.getElem?_modify]; simp [Ne.symm h]
theorem blk_setB_same {H : Heap} {b : Nat} {c c' : Array Value} (h : blk H b = some c) : blk (setB H b c') b = some c' := by
  have hlt := blk_lt h
  unfold blk at h ⊢
  split at h
  · rename_i hb
    unfold setB; rw [Array.getElem?_modify]; simp [hb]
  · cases h
theorem blk_setB_ne {H : Heap} {b b' : Nat} {c' : Array Value} (h : b' ≠ b) : blk (setB H b c') b' = blk H b' := by
  unfold blk setB; rw [Array.getElem?_modify]; simp [Ne.symm h]
theorem setB_setB (H : Heap) (b : Nat) (c c' : Array Value) : setB (setB H b c) b c' = setB H b c' := by
  refine heap_ext (fun i => ?_) rfl rfl rfl
  simp only [setB, Array.getElem?_modify]
  by_cases h : b = i
  · subst h; simp only [if_true]
    cases H.arr[b]? with
    | none => rfl
    | some o => cases o <;> rfl
  · simp [h]
theorem setB_self {H : Heap} {b : Nat} {c : Array Value} (h : blk H b = some c) : setB H b c = H := by
  refine heap_ext (fun i => ?_) rfl rfl rfl
  simp only [setB, Array.getElem?_modify]
  by_cases hb : b = i
  · subst hb
    unfold blk at h
    split at h
    · rename_i hq; cases h; simp [hq]
    · cases h
  · simp [hb]
theorem setCell_heap {b o : Nat} {c : Array Value} {v : Value} (h : blk w.hp b = some c) : (w.setCell ⟨b, o, none⟩ v).hp = setB w.hp b (c.setIfInBounds o v) := by
  unfold World.setCell setB
  refine heap_ext (fun i => ?_) rfl rfl rfl
  simp only [Array.getElem?_modify, hp_arr, World.hp]
  by_cases hb : b = i
  · subst hb
    unfold blk at h
    split at h
    · rename_i hq; rw [hp_arr] at hq; cases h; simp [hq]
    · cases h
  · simp [hb]
theorem store_run {b o : Nat} {c : Array Value} {v : Value} (h : own w.hp b = some c) (ho : o < c.size) (hv : isCell v = true) :
    (store ⟨b, o, none⟩ v).run P w = .ok () (w.setCell ⟨b, o, none⟩ v) := by
  have hc := cell_of_blk (w := w) (own_blk h) (o := o) (v := c[o]) (by simp [ho])
  have hf : w.frozen? ⟨b, o, none⟩ = false := own_frozen h
  unfold store
  cases v <;> simp [isCell] at hv <;> simp [Sem.run, hc, hf]
theorem addr_add (b o i : Nat) : Addr.add ⟨b, o, none⟩ i = ⟨b, o + i, none⟩ := by
  unfold Addr.add; split <;> simp_all
theorem splice_size (l : List Value) : ∀ (c : Array Value) (o : Nat), (splice c o l).size = c.size := by
  induction l with
  | nil => intro c o; rfl
  | cons v l ih => intro c o; simp [splice, ih]
theorem storeCells_run {b o : Nat} : ∀ (l : List Value) (i : Nat) (w : World) (c : Array Value), own w.hp b = some c → o + i + l.length ≤ c.size → l.all isCell = true →
    ∃ w', (storeCells ⟨b, o, none⟩ l i).run P w = .ok () w' ∧ w'.hp = setB w.hp b (splice c (o + i) l)
  | [], i, w, c, h, _, _ => ⟨w, by simp [storeCells, go_sem], by simp [splice]; exact (setB_self (own_blk h)).symm⟩
  | v :: l, i, w, c, h, hs, ha => by
    simp only [List.length_cons] at hs
    simp only [List.all_cons, Bool.and_eq_true] at ha
    have h1 := setCell_heap (w := w) (o := o + i) (v := v) (own_blk h)
    have h2 : own (w.setCell ⟨b, o + i, none⟩ v).hp b = some (c.setIfInBounds (o + i) v) := by rw [h1]; exact own_setB_same h
    obtain ⟨w', hr, hw⟩ := storeCells_run (o := o) l (i + 1) (w.setCell ⟨b, o + i, none⟩ v) _ h2 (by simp; omega) ha.2
    refine ⟨w', ?_, ?_⟩
    · unfold storeCells
      rw [Sem.run_bind, addr_add, store_run (o := o + i) h (by omega) ha.1]
      exact hr
    · rw [hw, h1, setB_setB]; rfl
theorem wrA_run {b o : Nat} {l : List Value} {H' : Heap} (h : wrA w.hp b o l = some H') : ∃ w', (storeCells ⟨b, o, none⟩ l).run P w = .ok () w' ∧ w'.hp = H' := by
  unfold wrA at h
  split at h
  · rename_i c hc
    split at h
    · rename_i hh
      cases h
      obtain ⟨w', h1, h2⟩ := storeCells_run (P := P) (o := o) l 0 w c hc (by omega) hh.2
      exact ⟨w', h1, h2⟩
    · cases h
  · cases h
theorem stE_run {t : TypeId} {i : TypeInfo} {x v : Value} {H' : Heap} (hi : P.info? t = some i) (h : stE i.size x v w.hp = some H') :
    ∃ w', (Instr.storeAt t x v).run P w = .ok () w' ∧ w'.hp = H' := by
  unfold stE at h
  split at h
  · rename_i b o
    split at h
    · rename_i hs
      obtain ⟨w', h1, h2⟩ := wrA_run (P := P) h
      refine ⟨w', ?_, h2⟩
      simp only [Instr.storeAt, Instr.sureAddr, Sem.run_bind, Sem.run_pure, Result.andThen, storeVar, size_run hi, hs, ne_eq, not_true_eq_false, if_false, h1]
    · cases h
  · cases h
theorem newRow_run (t : TypeId) (c : Array Value) : ∃ w', (newRow t c).run P w = .ok ⟨w.hp.size, 0, none⟩ w' ∧ w'.hp = newB w.hp t c :=
  ⟨{ w with heap := w.heap.push (.cells c t) }, by simp only [newRow, newObj, Sem.run_bind, Sem.run, Result.andThen, Sem.run_pure]; rfl, rfl⟩
theorem box_run (t : TypeId) (v : Value) : ∃ w', (Instr.box t v).run P w = .ok (adr w.hp) w' ∧ w'.hp = newB w.hp t v.cells := by
  obtain ⟨w', h1, h2⟩ := newRow_run (P := P) (w := w) t v.cells
  exact ⟨w', by simp only [Instr.box, newVar, Sem.run_bind, h1, Result.andThen, Sem.run_pure, adr], h2⟩
theorem alloc_run {t : TypeId} {i : TypeInfo} {z : Value} (hi : P.info? t = some i) (hz : i.zero = some z) :
    ∃ w', (Instr.alloc t true (.tuple #[])).run P w = .ok (adr w.hp) w' ∧ w'.hp = newB w.hp t z.cells := by
  obtain ⟨w', h1, h2⟩ := newRow_run (P := P) (w := w) t z.cells
  exact ⟨w', by simp only [Instr.alloc, newVar, Sem.run_bind, zero_run hi hz, h1, Result.andThen, Sem.run_pure, adr], h2⟩
end
end Go.Hc
set_option linter.unusedSimpArgs false
set_option linter.unusedVariables false
namespace Go.Hc
open Go

section
variable {P : Program} {w : World}

theorem faV_run {s : TypeId} {fs : Array Field} {f : Nat} {fd : Field} {i : TypeInfo} {x v : Value} (hd : P.underlying s = some (.struct fs)) (hf : fs[f]? = some fd)
    (hi : P.info? fd.type = some i) (h0 : i.size ≠ 0) (h : faV fd.offset x = some v) : (Instr.fieldAt s x f).run P w = .ok v w := by
  unfold faV at h
  split at h
  · cases h
    simp only [Instr.fieldAt, Sem.run_bind, under_run hd, Result.andThen, hf, Instr.sureAddr, Sem.run_pure, fieldPlace, size_run hi, h0, if_false, addr_add]
  · cases h
theorem exV_run {i : Nat} {x v : Value} (h : exV i x = some v) : (Instr.extract x i).run P w = .ok v w := by
  unfold exV at h
  split at h
  · simp only [Instr.extract, h, Sem.run_pure]
  · cases h
theorem unV_run {op : UnOp} {x v : Value} (h : unV op x = some v) : (Op.unary op x).run P w = .ok v w := by
  unfold unV at h
  split at h
  · cases h; simp only [Op.unary, Op.intArith, Sem.run_pure]
  · cases h; simp only [Op.unary, Sem.run_pure]
  · cases h
theorem ixSV_run {t e : TypeId} {i : TypeInfo} {x ix v : Value} (hd : P.underlying t = some (.slice e)) (hi : P.info? e = some i)
    (h : ixSV i.size x ix = some v) : (Instr.indexAt t x ix).run P w = .ok v w := by
  unfold ixSV at h
  split at h
  · rename_i b o n c k j
    split at h
    · rename_i hj; cases h
      simp only [Instr.indexAt, asIntOf, Sem.run_bind, under_run hd, Result.andThen, Sem.run_pure, hj, and_self, if_true, size_run hi, addr_add]
    · cases h
  · cases h
theorem ixAV_run {t e : TypeId} {n : Nat} {i : TypeInfo} {x ix v : Value} (hd : P.underlying t = some (.array n e)) (hi : P.info? e = some i)
    (h : ixAV i.size n x ix = some v) : (Instr.indexAt t x ix).run P w = .ok v w := by
  unfold ixAV at h
  split at h
  · rename_i b o k j
    split at h
    · rename_i hj; cases h
      simp only [Instr.indexAt, asIntOf, Instr.sureAddr, Sem.run_bind, under_run hd, Result.andThen, Sem.run_pure, hj, and_self, if_true, size_run hi, addr_add]
    · cases h
  · cases h
theorem partV_run {t : TypeId} {i : TypeInfo} {d : TypeDesc} {cs : Array Value} {off : Nat} {v : Value} (hi : P.info? t = some i) (hd : P.underlying t = some d)
    (h : partV (isAggD d) i.size off cs = some v) : (part t cs off).run P w = .ok v w := by
  unfold partV at h
  simp only [part, Sem.run_bind, agg_run hd, Result.andThen]
  cases hg : isAggD d
  · simp only [hg, Bool.false_eq_true, if_false] at h ⊢
    simp only [h, Sem.run_pure]
  · simp only [hg, if_true] at h ⊢
    cases h
    simp only [Sem.run_bind, size_run hi, Result.andThen, Sem.run_pure]
theorem fieldV_run {s : TypeId} {fs : Array Field} {f : Nat} {fd : Field} {i : TypeInfo} {d : TypeDesc} {x v : Value} (hs : P.underlying s = some (.struct fs)) (hf : fs[f]? = some fd)
    (hi : P.info? fd.type = some i) (hd : P.underlying fd.type = some d) (h : fieldV (isAggD d) i.size fd.offset x = some v) : (Instr.field s x f).run P w = .ok v w := by
  unfold fieldV at h
  split at h
  · simp only [Instr.field, Sem.run_bind, under_run hs, Result.andThen, hf, asAgg, Sem.run_pure, partV_run hi hd h]
  · cases h
theorem indexV_run {t e : TypeId} {n : Nat} {i : TypeInfo} {d : TypeDesc} {x ix v : Value} (ht : P.underlying t = some (.array n e)) (hi : P.info? e = some i) (hd : P.underlying e = some d)
    (h : indexV (isAggD d) i.size n x ix = some v) : (Instr.index t x ix).run P w = .ok v w := by
  unfold indexV at h
  split at h
  · split at h
    · rename_i hj
      simp only [Instr.index, asIntOf, Sem.run_bind, under_run ht, Result.andThen, Sem.run_pure, hj, and_self, if_true, size_run hi, partV_run hi hd h]
    · cases h
  · cases h
theorem boundV_run {d hi n : Nat} {x : Value} {code : BoundsCode} (h : boundV d hi (some x) = some n) : (Instr.sliceBound x hi code).run P w = .ok n w := by
  unfold boundV at h
  split at h
  · simp_all
  · rename_i k i heq
    simp only [Option.some.injEq] at heq
    subst heq
    split at h
    · rename_i hh; cases h
      simp only [Instr.sliceBound, asIntOf, Sem.run_bind, Sem.run_pure, Result.andThen, hh, and_self, if_true]
    · cases h
  · cases h
theorem sliceV_run {t e : TypeId} {i : TypeInfo} {x v : Value} {lo hi : Option Value} (hd : P.underlying t = some (.slice e)) (hi' : P.info? e = some i)
    (h : sliceV i.size x lo hi = some v) : (Instr.sliceAt t x lo hi none).run P w = .ok v w := by
  unfold sliceV at h
  split at h
  · rename_i a len cap
    split at h
    · cases h
    · rename_i hh heq
      split at h
      · cases h
      · rename_i l heql
        have e1 : (Instr.sliceBounds true len cap lo hi none).run P w = .ok (l, hh, cap) w := by
          unfold Instr.sliceBounds
          cases hi with
          | none =>
            simp only [boundV, Option.some.injEq] at heq; subst heq
            cases lo with
            | none => simp only [boundV, Option.some.injEq] at heql; subst heql; simp [go_sem]
            | some lo => simp [go_sem, boundV_run heql]
          | some hi =>
            cases lo with
            | none => simp only [boundV, Option.some.injEq] at heql; subst heql; simp [go_sem, boundV_run heq]
            | some lo => simp [go_sem, boundV_run heql, boundV_run heq]
        split at h
        · rename_i hcl
          cases h
          simp only [Instr.sliceAt, Instr.slice, Sem.run_bind, under_run hd, Result.andThen, e1, size_run hi', Sem.run_pure]
          simp [hcl]
        · rename_i hcl
          split at h
          · cases h
          · rename_i ha
            cases h
            simp only [Instr.sliceAt, Instr.slice, Sem.run_bind, under_run hd, Result.andThen, e1, size_run hi', Sem.run_pure, if_neg hcl]
            congr 2
            cases a with
            | none => rfl
            | some a =>
              obtain ⟨b, o, s⟩ := a
              cases s with
              | none => simp [addr_add]
              | some s => exact absurd rfl (ha b o s)
  · cases h
theorem sliceV3_run {t e : TypeId} {i : TypeInfo} {x v hi mx : Value} {lo : Option Value} (hd : P.underlying t = some (.slice e)) (hi' : P.info? e = some i)
    (h : sliceV3 i.size x lo hi mx = some v) : (Instr.sliceAt t x lo (some hi) (some mx)).run P w = .ok v w := by
  unfold sliceV3 at h
  split at h
  · rename_i a len cap
    split at h
    · cases h
    · rename_i ha
      split at h
      · cases h
      · rename_i mm heqm
        split at h
        · cases h
        · rename_i hh heq
          split at h
          · cases h
          · rename_i l heql
            cases h
            have e1 : (Instr.sliceBounds true len cap lo (some hi) (some mx)).run P w = .ok (l, hh, mm) w := by
              unfold Instr.sliceBounds
              cases lo with
              | none => simp only [boundV, Option.some.injEq] at heql; subst heql; simp [go_sem, boundV_run heqm, boundV_run heq]
              | some lo => simp [go_sem, boundV_run heqm, boundV_run heql, boundV_run heq]
            simp only [Instr.sliceAt, Instr.slice, Sem.run_bind, under_run hd, Result.andThen, e1, size_run hi', Sem.run_pure]
            congr 2
            split
            · rfl
            · cases a with
              | none => rfl
              | some a =>
                obtain ⟨b, o, s⟩ := a
                cases s with
                | none => simp [addr_add]
                | some s => exact absurd rfl (ha b o s)
  · cases h
theorem lenV_run {t : TypeId} {e : TypeId} {ats : Array TypeId} {ty : TypeId} {x v : Value} (ha : ats[0]? = some t) (hd : P.underlying t = some (.slice e)) (h : lenV x = some v) :
    (Builtin.len_ ats ty #[x]).run P w = .ok v w := by
  unfold lenV at h
  split at h
  · cases h
    simp only [Builtin.len_, ha]
    simp [go_sem, under_run hd, goInt]
  · cases h
theorem capV_run {t : TypeId} {e : TypeId} {ats : Array TypeId} {ty : TypeId} {x v : Value} (ha : ats[0]? = some t) (hd : P.underlying t = some (.slice e)) (h : capV x = some v) :
    (Builtin.cap_ ats ty #[x]).run P w = .ok v w := by
  unfold capV at h
  split at h
  · cases h
    simp only [Builtin.cap_, ha]
    simp [go_sem, under_run hd, goInt]
  · cases h
theorem min2V_run {x y v : Value} (h : min2V x y = some v) : (Builtin.min2 x y).run P w = .ok v w := by
  unfold min2V at h
  split at h
  · cases h; simp only [Builtin.min2, Sem.run_pure]
  · cases h
theorem max2V_run {x y v : Value} (h : max2V x y = some v) : (Builtin.max2 x y).run P w = .ok v w := by
  unfold max2V at h
  split at h
  · cases h; simp only [Builtin.max2, Sem.run_pure]
  · cases h
theorem fold_run {f : Value → Value → Option Value} {g : Value → Value → Sem Value} (hf : ∀ x y v, f x y = some v → (g x y).run P w = .ok v w) :
    ∀ (l : List Value) (x v : Value), foldV f x l = some v → (l.foldlM g x).run P w = .ok v w
  | [], x, v, h => by simp only [foldV, Option.some.injEq] at h; subst h; simp [go_sem]
  | y :: l, x, v, h => by
    simp only [foldV] at h
    split at h
    · rename_i z hz
      simp only [List.foldlM_cons, Sem.run_bind, hf _ _ _ hz, Result.andThen]
      exact fold_run hf l z v h
    · cases h
theorem min_run {ats : Array TypeId} {ty : TypeId} {x v : Value} {l : List Value} (h : foldV min2V x l = some v) : (Builtin.min_ ats ty (x :: l).toArray).run P w = .ok v w := by
  simp only [Builtin.min_]; exact fold_run (fun _ _ _ => min2V_run) l x v h
theorem max_run {ats : Array TypeId} {ty : TypeId} {x v : Value} {l : List Value} (h : foldV max2V x l = some v) : (Builtin.max_ ats ty (x :: l).toArray).run P w = .ok v w := by
  simp only [Builtin.max_]; exact fold_run (fun _ _ _ => max2V_run) l x v h
theorem cvV_run {s t : TypeId} {d : TypeDesc} {k : IntKind} {x v : Value} (hs : P.underlying s = some d) (ht : P.underlying t = some (.int k)) (h : cvV k x = some v) :
    (convert s t x).run P w = .ok v w := by
  unfold cvV at h
  split at h
  · cases h
    simp only [convert, Sem.run_bind, under_run hs, under_run ht, Result.andThen]
    simp [Conv.intToInt, go_sem]
  · cases h
end
end Go.Hc
set_option linter.unusedSimpArgs false
set_option linter.unusedVariables false
namespace Go.Hc
open Go

/-- A type whose values are held against each other cell by cell. -/
def EqOK (P : Program) (t : TypeId) (m : List Bool) : Prop :=
  P.eqGuardType P.depth t = false ∧ ∀ (xs ys : Array Value) (r : Bool) (w : World), cellsEq m xs.toList ys.toList = some r →
    (Op.equal t (.agg xs) (.agg ys)).run P w = .ok r w

theorem cellsEq_len : ∀ {m : List Bool} {xs ys : List Value} {r : Bool}, cellsEq m xs ys = some r → xs.length = m.length ∧ ys.length = m.length
  | [], [], [], _, _ => ⟨rfl, rfl⟩
  | m :: ms, x :: xs, y :: ys, r, h => by
    simp only [cellsEq] at h
    split at h
    · split at h
      · rename_i h2
        obtain ⟨a, b⟩ := cellsEq_len h2
        simp [a, b]
      · cases h
    · cases h

def FlatF (P : Program) : List Field → List Bool → Nat → Prop
  | [], [], _ => True
  | f :: fs, m :: ms, i => (f.name == "_") = false ∧ f.offset = i ∧ (m = false ∧ P.underlying f.type = some .bool ∨ m = true ∧ ∃ k, P.underlying f.type = some (.int k)) ∧ FlatF P fs ms (i + 1)
  | _, _, _ => False

theorem eqFields_flat {P : Program} {w : World} {xs ys : Array Value} (d : Nat) : ∀ (fs : List Field) (ms : List Bool) (i : Nat), FlatF P fs ms i →
    ∀ r, cellsEq ms (xs.toList.drop i) (ys.toList.drop i) = some r → (Op.eqFields (d + 1) xs ys fs).run P w = .ok r w
  | [], [], i, _, r, h => by
    have hl := cellsEq_len h
    rw [List.eq_nil_of_length_eq_zero hl.1, List.eq_nil_of_length_eq_zero hl.2] at h
    simp only [cellsEq, Option.some.injEq] at h
    subst h; simp [Op.eqFields]
  | f :: fs, m :: ms, i, hf, r, h => by
    obtain ⟨hn, ho, ht, hr⟩ := hf
    have hl := cellsEq_len h
    simp only [List.length_cons, List.length_drop, Array.length_toList] at hl
    have hix : i < xs.size := by omega
    have hiy : i < ys.size := by omega
    rw [List.drop_eq_getElem_cons (by simpa using hix), List.drop_eq_getElem_cons (l := ys.toList) (by simpa using hiy)] at h
    simp only [cellsEq, Array.getElem_toList] at h
    have hn' : f.name ≠ "_" := by simpa using hn
    split at h
    · rename_i r1 h1
      split at h
      · rename_i s h2
        cases h
        have ih := eqFields_flat (w := w) d fs ms (i + 1) hr s h2
        have px : (part f.type xs f.offset).run P w = .ok xs[i] w := by
          rcases ht with ⟨_, ht⟩ | ⟨_, k, ht⟩ <;> simp [part, agg_run ht, isAggD, go_sem, ho, hix]
        have py : (part f.type ys f.offset).run P w = .ok ys[i] w := by
          rcases ht with ⟨_, ht⟩ | ⟨_, k, ht⟩ <;> simp [part, agg_run ht, isAggD, go_sem, ho, hiy]
        have he : (Op.equalIn (d + 1) f.type xs[i] ys[i]).run P w = .ok r1 w := by
          unfold cellEq at h1
          split at h1
          · rename_i k a k' b ha hb
            split at h1
            · rename_i hk; subst hk
              simp only [Option.some.injEq] at h1; subst h1
              rw [ha, hb]
              rcases ht with ⟨hm, ht⟩ | ⟨_, k', ht⟩
              · cases hm
              · exact run_equalIn_int w d f.type k k' a b ht
            · cases h1
          · rename_i a b ha hb
            simp only [Option.some.injEq] at h1; subst h1
            rw [ha, hb]
            rcases ht with ⟨_, ht⟩ | ⟨hm, k', ht⟩
            · exact run_equalIn_bool' w d f.type a b ht
            · cases hm
          · cases h1
        rw [Op.eqFields]
        simp only [if_pos hn', Sem.run_bind, px, py, he, Result.andThen]
        cases r1
        · simp
        · simpa using ih
      · cases h
    · cases h
theorem eqOK_struct {P : Program} {t : TypeId} {fs : Array Field} {m : List Bool} (hd : P.underlying t = some (.struct fs)) (hg : P.eqGuardType P.depth t = false) (hs : P.stoodInHeld t = false)
    (hf : FlatF P fs.toList m 0) : EqOK P t m := by
  refine ⟨hg, fun xs ys r w h => ?_⟩
  have hfo : P.fieldsOf t = fs := by simp [Program.fieldsOf, hd]
  unfold Op.equal
  show (Op.equalIn (9999 + 1) t (.agg xs) (.agg ys)).run P w = .ok r w
  rw [run_equalIn_struct w 9999 t xs ys (by rw [hfo]; exact hd) hs, hfo]
  exact eqFields_flat 9998 fs.toList m 0 hf r (by simpa using h)

/-- An array of numbers. -/
theorem eqOK_array {P : Program} {t e : TypeId} {n : Nat} {k : IntKind} {i : TypeInfo} (hd : P.underlying t = some (.array n e)) (hi : P.info? e = some i) (he : P.underlying e = some (.int k)) (hc : P.cellsOf e = 1) (hg : P.eqGuardType P.depth t = false) :
    EqOK P t (List.replicate n true) := by
  refine ⟨hg, fun xs ys r w h => ?_⟩
  unfold Op.equal
  show (Op.equalIn (9999 + 1) t (.agg xs) (.agg ys)).run P w = .ok r w
  have hl := cellsEq_len h
  simp only [Array.length_toList, List.length_replicate] at hl
  rw [run_equalIn_array (w := w) 9999 xs ys hd hi, hc]
  have key : ∀ (m j : Nat) (r : Bool), j + m = n → cellsEq (List.replicate m true) (xs.toList.drop j) (ys.toList.drop j) = some r → (Op.eqItems 9999 e 1 xs ys (List.range' j m)).run P w = .ok r w := by
    intro m
    induction m with
    | zero =>
      intro j r hj h
      rw [List.drop_of_length_le (by simp; omega), List.drop_of_length_le (by simp; omega)] at h
      simp only [List.replicate_zero, cellsEq, Option.some.injEq] at h
      subst h; simp [Op.eqItems]
    | succ m ih =>
      intro j r hj h
      have hix : j < xs.size := by omega
      have hiy : j < ys.size := by omega
      rw [List.drop_eq_getElem_cons (by simpa using hix), List.drop_eq_getElem_cons (l := ys.toList) (by simpa using hiy), List.replicate_succ] at h
      simp only [cellsEq, Array.getElem_toList] at h
      split at h
      · rename_i r1 h1
        split at h
        · rename_i s h2
          cases h
          have ih := ih (j + 1) s (by omega) h2
          unfold cellEq at h1
          split at h1
          · rename_i ka a kb b _ ha hb
            split at h1
            · rename_i hk; subst hk
              simp only [Option.some.injEq] at h1; subst h1
              have px : (part e xs (j * 1)).run P w = .ok xs[j] w := by simp [part, agg_run he, isAggD, go_sem, hix]
              have py : (part e ys (j * 1)).run P w = .ok ys[j] w := by simp [part, agg_run he, isAggD, go_sem, hiy]
              have hq : (Op.equalIn 9999 e xs[j] ys[j]).run P w = .ok (a == b) w := by rw [ha, hb]; exact run_equalIn_int w 9998 e ka k a b he
              rw [List.range'_succ, Op.eqItems]
              simp only [Sem.run_bind, px, py, hq, Result.andThen]
              cases (a == b)
              · simp
              · simpa using ih
            · cases h1
          · rename_i hh _ _; exact absurd hh (by decide)
          · cases h1
        · cases h
      · cases h
  rw [List.range_eq_range']
  exact key n 0 r (by omega) (by simpa using h)

section
variable {P : Program} {w : World}
theorem equalIn_ptr1 (d : Nat) {t e : TypeId} (h : P.underlying t = some (.pointer e)) (b : Option Addr) : (Op.equalIn (d + 1) t (.pointer none) (.pointer b)).run P w = .ok b.isNone w := by
  simp [Op.equalIn, go_sem, under_run h]
theorem equalIn_ptr2 (d : Nat) {t e : TypeId} (h : P.underlying t = some (.pointer e)) (b : Addr) : (Op.equalIn (d + 1) t (.pointer (some b)) (.pointer none)).run P w = .ok false w := by
  simp [Op.equalIn, go_sem, under_run h]
theorem equalIn_sl1 (d : Nat) {t e : TypeId} (h : P.underlying t = some (.slice e)) (n m : Nat) (b : Option Addr) (k l : Nat) : (Op.equalIn (d + 1) t (.slice none n m) (.slice b k l)).run P w = .ok b.isNone w := by
  simp [Op.equalIn, go_sem, under_run h]
theorem equalIn_sl2 (d : Nat) {t e : TypeId} (h : P.underlying t = some (.slice e)) (n m : Nat) (b : Addr) (k l : Nat) : (Op.equalIn (d + 1) t (.slice (some b) n m) (.slice none k l)).run P w = .ok false w := by
  simp [Op.equalIn, go_sem, under_run h]
theorem eqV_run {t : TypeId} {m : EqM} {x y : Value} {r : Bool} (hm : match m with
    | .int => True
    | .bool => P.underlying t = some .bool
    | .ptr => ∃ e, P.underlying t = some (.pointer e)
    | .slice => ∃ e, P.underlying t = some (.slice e)
    | .agg m => EqOK P t m) (h : eqV m x y = some r) : (Op.equal t x y).run P w = .ok r w := by
  unfold eqV at h
  split at h
  · cases h; exact run_equalIn_bool' w 9999 t _ _ hm
  · cases h; obtain ⟨e, he⟩ := hm
    exact equalIn_ptr1 9999 he _
  · cases h; obtain ⟨e, he⟩ := hm
    exact equalIn_ptr2 9999 he _
  · cases h; obtain ⟨e, he⟩ := hm
    exact equalIn_sl1 9999 he _ _ _ _ _
  · cases h; obtain ⟨e, he⟩ := hm
    exact equalIn_sl2 9999 he _ _ _ _ _
  · exact hm.2 _ _ _ _ h
  · cases h
theorem eqGuard_ok {op : BinOp} {t : TypeId} {x y : Operand} {a b : Value} (h : ∀ xs ys, a = .agg xs → b = .agg ys → P.eqGuardType P.depth t = false) (hn : a ≠ .nilIface) :
    (eqGuard op t x y a b).run P w = .ok () w := by
  have k1 : (eqGuard .eql t x y a b).run P w = .ok () w := by
    unfold eqGuard
    cases a <;> cases b <;> first | exact absurd rfl hn | (simp [go_sem]; done) | (simp [go_sem, h _ _ rfl rfl]; done)
  have k2 : (eqGuard .neq t x y a b).run P w = .ok () w := by
    unfold eqGuard
    cases a <;> cases b <;> first | exact absurd rfl hn | (simp [go_sem]; done) | (simp [go_sem, h _ _ rfl rfl]; done)
  cases op <;> first | exact k1 | exact k2 | rfl
theorem binV_run {t : TypeId} {m : EqM} {op : BinOp} {ox oy : Operand} {x y v : Value} (hm : match m with
    | .int => True
    | .bool => P.underlying t = some .bool
    | .ptr => ∃ e, P.underlying t = some (.pointer e)
    | .slice => ∃ e, P.underlying t = some (.slice e)
    | .agg m => EqOK P t m) (h : binV m op x y = some v) : (do eqGuard op t ox oy x y; binOp op t x y : Sem Value).run P w = .ok v w := by
  unfold binV at h
  split at h
  · unfold shV at h
    split at h
    · cases h
    · rename_i hb
      cases h
      rw [Sem.run_bind, eqGuard_ok (by intro _ _ h; cases h) (by intro h; cases h)]
      simp [Result.andThen, binOp, Op.shift, hb, go_sem]
  · unfold shV at h
    split at h
    · cases h
    · rename_i hb
      cases h
      rw [Sem.run_bind, eqGuard_ok (by intro _ _ h; cases h) (by intro h; cases h)]
      simp [Result.andThen, binOp, Op.shift, hb, go_sem]
  · split at h
    · rename_i k a k' b hs1 hs2 hk
      subst hk
      rw [Sem.run_bind, eqGuard_ok (by intro _ _ h; cases h) (by intro h; cases h)]
      unfold intBin at h
      split at h
      · cases h; simp [Result.andThen, binOp, Op.intArith, go_sem]
      · cases h; simp [Result.andThen, binOp, Op.intArith, go_sem]
      · cases h; simp [Result.andThen, binOp, Op.intArith, go_sem]
      · split at h
        · cases h
        · rename_i hb; cases h; simp [Result.andThen, binOp, Op.intDiv, go_sem, hb]
      · split at h
        · cases h
        · rename_i hb; cases h; simp [Result.andThen, binOp, Op.intDiv, go_sem, hb]
      · cases h; simp [Result.andThen, binOp, Op.intCmp, go_sem]
      · cases h; simp [Result.andThen, binOp, Op.intCmp, go_sem]
      · cases h; simp [Result.andThen, binOp, Op.intCmp, go_sem]
      · cases h; simp [Result.andThen, binOp, Op.intCmp, go_sem]
      · cases h; simp [Result.andThen, binOp, Op.intCmp, go_sem]
      · cases h; simp [Result.andThen, binOp, Op.intCmp, go_sem]
      · cases h
    · cases h
  · unfold isO at h
    split at h
    · rename_i r hr
      cases h
      have h1 := eqV_run (w := w) hm hr
      have hg : (eqGuard .eql t ox oy x y).run P w = .ok () w := by
        refine eqGuard_ok (fun xs ys hx hy => ?_) (fun hx => ?_)
        · subst hx; subst hy
          cases m <;> simp [eqV] at hr
          exact hm.1
        · subst hx; cases m <;> simp [eqV] at hr
      rw [Sem.run_bind, hg]
      cases m <;> cases x <;> cases y <;> simp [eqV] at hr <;> simp [Result.andThen, binOp, go_sem, h1]
    · cases h
  · unfold notO at h
    split at h
    · rename_i r hr
      cases h
      have h1 := eqV_run (w := w) hm hr
      have hg : (eqGuard .neq t ox oy x y).run P w = .ok () w := by
        refine eqGuard_ok (fun xs ys hx hy => ?_) (fun hx => ?_)
        · subst hx; subst hy
          cases m <;> simp [eqV] at hr
          exact hm.1
        · subst hx; cases m <;> simp [eqV] at hr
      rw [Sem.run_bind, hg]
      cases m <;> cases x <;> cases y <;> simp [eqV] at hr <;> simp [Result.andThen, binOp, go_sem, h1]
    · cases h
  · cases h
end
end Go.Hc
set_option linter.unusedSimpArgs false
set_option linter.unusedVariables false
namespace Go.Hc
open Go

theorem arange0 : Array.range 0 = #[] := rfl
theorem repZ_size (zero : Array Value) (n : Nat) : (repZ zero n).size = n * zero.size := by
  simp [repZ, List.length_flatten]
theorem repZ_get (zero : Array Value) : ∀ (n i : Nat), i < n * zero.size → (repZ zero n)[i]? = zero[i % zero.size]?
  | 0, i, h => by simp at h
  | n + 1, i, h => by
    have e : (repZ zero (n + 1)).toList = zero.toList ++ (repZ zero n).toList := by simp [repZ, List.replicate_succ]
    have e2 : (repZ zero (n + 1))[i]? = (zero.toList ++ (repZ zero n).toList)[i]? := by rw [← e]; simp
    rw [e2]
    by_cases hi : i < zero.size
    · rw [List.getElem?_append_left (by simpa using hi), Nat.mod_eq_of_lt hi]; simp
    · rw [List.getElem?_append_right (by simpa using hi)]
      have h2 := repZ_get zero n (i - zero.size) (by rw [Nat.succ_mul] at h; have := Nat.lt_of_lt_of_le h (Nat.le_refl _); generalize n * zero.size = q at *; omega)
      simp only [Array.length_toList, Array.getElem?_toList]
      rw [h2, Nat.mod_eq_sub_mod (a := i) (by omega)]
theorem range_rep (zero : Array Value) (n : Nat) : (Array.range (n * zero.size)).map (zero[· % zero.size]!) = repZ zero n := by
  apply Array.ext_getElem?; intro i
  by_cases h : i < n * zero.size
  · rw [repZ_get zero n i h]
    have h0 : 0 < zero.size := by
      rcases Nat.eq_zero_or_pos zero.size with h0 | h0
      · rw [h0] at h; simp at h
      · exact h0
    have hz : i % zero.size < zero.size := Nat.mod_lt _ h0
    rw [Array.getElem?_map, Array.getElem?_range, if_pos h]
    simp [hz]
  · rw [Array.getElem?_eq_none (by simp; omega), Array.getElem?_eq_none (by rw [repZ_size]; omega)]
theorem zeroCells_rep (zero : Array Value) (n : Nat) : Builtin.zeroCells zero n = repZ zero n := range_rep zero n

theorem zipIdx_splice (l : List Value) : ∀ (c : Array Value) (off j : Nat),
    (l.zipIdx j).foldl (fun cs (p : Value × Nat) => cs.setIfInBounds (off + p.2) p.1) c = splice c (off + j) l := by
  induction l with
  | nil => intro c off j; rfl
  | cons v l ih => intro c off j; simp only [List.zipIdx_cons, List.foldl_cons, splice]; rw [ih]; rfl
theorem fold_splice (vs c : Array Value) (off : Nat) : vs.zipIdx.foldl (fun cs (p : Value × Nat) => cs.setIfInBounds (off + p.2) p.1) c = splice c off vs.toList := by
  rw [← Array.foldl_toList, Array.toList_zipIdx, zipIdx_splice]; rfl
theorem fill_of {place : Nat → Option (Nat × Nat)} : ∀ (parts : List (Nat × Value)) (c cs : Array Value), fillA place c parts = some cs → Instr.fill place c parts = some cs
  | [], c, cs, h => h
  | (i, v) :: rest, c, cs, h => by
    simp only [fillA] at h
    simp only [Instr.fill]
    split at h
    · rename_i off sz hp
      split at h
      · rename_i hh
        have h1 : (v.cells.size ≠ sz || decide (off + v.cells.size > c.size)) = false := by simp [hh.1]; omega
        rw [hp]
        simp only [h1, Bool.false_eq_true, if_false]
        exact fill_of rest _ cs (by rw [fold_splice]; exact h)
      · cases h
    · cases h

theorem a0 {α : Type} (x y : α) : (#[x, y] : Array α)[0]? = some x := rfl
theorem a1 {α : Type} (x y : α) : (#[x, y] : Array α)[1]? = some y := rfl
section
variable {P : Program} {w : World}
theorem build_run_arr {t e : TypeId} {i ie : TypeInfo} {z : Value} {n : Nat} {parts : Array (Nat × Value)} {v : Value}
    (hi : P.info? t = some i) (hz : i.zero = some z) (hd : P.underlying t = some (.array n e)) (he : P.info? e = some ie) (h : buildV z.cells (every ie.size) parts.toList = some v) :
    (Instr.build t parts).run P w = .ok v w := by
  unfold buildV at h
  split at h
  · rename_i cs hcs
    cases h
    have hf := fill_of _ _ _ hcs
    have hfun : (fun j => some (j * ie.size, ie.size)) = every ie.size := rfl
    simp only [Instr.build, Sem.run_bind, zero_run hi hz, under_run hd, size_run he, Result.andThen]
    rw [hfun, hf]
    simp [go_sem]
  · cases h
theorem build_run {t : TypeId} {i : TypeInfo} {z : Value} {fs : Array Field} {pl : List (Nat × Nat)} {parts : Array (Nat × Value)} {v : Value}
    (hi : P.info? t = some i) (hz : i.zero = some z) (hd : P.underlying t = some (.struct fs))
    (hp : fs.toList.mapM (fun f => (P.info? f.type).map fun j => (f.offset, j.size)) = some pl) (h : buildV z.cells (places pl) parts.toList = some v) :
    (Instr.build t parts).run P w = .ok v w := by
  have hpl : ∀ (l : List Field) (q : List (Nat × Nat)), l.mapM (fun f => (P.info? f.type).map fun j => (f.offset, j.size)) = some q →
      (l.mapM (m := Sem) fun f => do pure (f.offset, ← sizeOf f.type)).run P w = .ok q w := by
    intro l
    induction l with
    | nil => intro q hq; simp at hq; subst hq; simp [go_sem]
    | cons f l ih =>
      intro q hq
      simp only [List.mapM_cons] at hq ⊢
      cases hf : P.info? f.type with
      | none => simp [hf] at hq
      | some j =>
        simp only [hf, Option.map_some] at hq
        cases hl : l.mapM (fun f => (P.info? f.type).map fun j => (f.offset, j.size)) with
        | none => simp [hl] at hq
        | some q' =>
          simp [hl] at hq
          subst hq
          simp only [Sem.run_bind, size_run hf, Result.andThen, Sem.run_pure, ih q' hl]
  have h2 : (fs.mapM (m := Sem) fun f => do pure (f.offset, ← sizeOf f.type)).run P w = .ok pl.toArray w := by
    rw [Array.mapM_eq_mapM_toList, Sem.run_map, hpl _ _ hp]; rfl
  unfold buildV at h
  split at h
  · rename_i cs hcs
    cases h
    have hf := fill_of _ _ _ hcs
    have hfun : (fun x => pl.toArray[x]?) = places pl := by funext x; simp [places]
    simp only [Instr.build, Sem.run_bind, zero_run hi hz, under_run hd, Result.andThen, h2]
    rw [hfun, hf]
    simp [go_sem]
  · cases h
theorem bslE_run {t e : TypeId} {i : TypeInfo} {z : Value} {len : Nat} {parts : Array (Nat × Value)} {k : Value → Heap → Prop}
    (hd : P.underlying t = some (.slice e)) (hi : P.info? e = some i) (hz : i.zero = some z) (hs : z.cells.size = i.size) (h : bslE e z.cells i.size len parts.toList w.hp k) :
    ∃ v w', (Instr.buildSlice t len parts).run P w = .ok v w' ∧ k v w'.hp := by
  obtain ⟨hle, cs, hcs, hk⟩ := h
  have hf := fill_of _ _ _ hcs
  obtain ⟨w', h1, h2⟩ := newRow_run (P := P) (w := w) e cs
  refine ⟨_, w', ?_, by rw [h2]; exact hk⟩
  have hnot : ¬ (len * i.size > 2 ^ 24) := by omega
  have hev : (fun j => some (j * i.size, i.size)) = every i.size := rfl
  simp only [Instr.buildSlice, Sem.run_bind, under_run hd, size_run hi, Result.andThen, hnot, if_false]
  rw [hev]
  by_cases h0 : len * i.size = 0
  · have e0 : (repZ z.cells len).size = 0 := by rw [repZ_size, hs]; exact h0
    have e1 : repZ z.cells len = #[] := Array.eq_empty_of_size_eq_zero e0
    rw [e1] at hf
    simp only [h0, if_true, Sem.run_bind, Sem.run_pure, Result.andThen, arange0, Array.map_empty, hf, h1]
  · have e1 := range_rep z.cells len
    rw [hs] at e1
    simp only [h0, if_false, Sem.run_bind, zero_run hi hz, Sem.run_pure, Result.andThen, hs, e1, hf, h1]
theorem i64_wrap {n : Int} (h0 : 0 ≤ n) (h1 : n ≤ 2 ^ 48) : IntKind.i64.wrap n = n := by
  exact IntWalk.i64_in _ (by omega)
theorem ask_run (n : Nat) : (askRoom n).run P w = .ok () w := by
  unfold askRoom; split
  · simp [mark, Sem.run]
  · simp [go_sem]
theorem mslE_run {t e : TypeId} {i : TypeInfo} {z : Value} {l c : Value} {k : Value → Heap → Prop}
    (hd : P.underlying t = some (.slice e)) (hi : P.info? e = some i) (hz : i.zero = some z) (hs : z.cells.size = i.size) (h : mslE e z.cells i.bytes l c w.hp k) :
    ∃ v w', (Instr.makeSlice t l c).run P w = .ok v w' ∧ k v w'.hp := by
  unfold mslE at h
  split at h
  · rename_i k1 l k2 c
    obtain ⟨⟨h0, h1, h2, h3⟩, hk⟩ := h
    obtain ⟨w', e1, e2⟩ := newRow_run (P := P) (w := w) e (repZ z.cells c.toNat)
    refine ⟨_, w', ?_, by rw [e2]; exact hk⟩
    have wl := i64_wrap h0 (by omega)
    have wc := i64_wrap (n := c) (by omega) (by omega)
    have hc1 : ¬ c < 0 := by omega
    have hl1 : ¬ l < 0 := by omega
    have hlc : ¬ l > c := by omega
    have hb : ¬ ((i.bytes : Int) * c > 2 ^ 48) := by omega
    have hrep := range_rep z.cells c.toNat
    rw [hs] at hrep
    simp only [Instr.makeSlice, Sem.run_bind, under_run hd, info_run hi, asInt, asIntOf, Sem.run_pure, Result.andThen, wl, wc]
    simp only [hc1, hl1, hlc, hb, decide_false, Bool.or_false, Bool.false_eq_true, if_false, Sem.run_bind, ask_run, Result.andThen, size_run hi]
    by_cases h0 : c.toNat * i.size = 0
    · have e0 : (repZ z.cells c.toNat).size = 0 := by rw [repZ_size, hs]; exact h0
      have e3 : repZ z.cells c.toNat = #[] := Array.eq_empty_of_size_eq_zero e0
      rw [e3] at e1
      simp only [h0, if_true, Sem.run_bind, Sem.run_pure, Result.andThen, arange0, Array.map_empty, e1]
    · simp only [h0, if_false, Sem.run_bind, zero_run hi hz, Sem.run_pure, Result.andThen, hs, hrep, e1]
  · exact h.elim
theorem rdS_run {size n m cap : Nat} {a : Option Addr} {cs : Array Value} (h : rdS w.hp size n a = some cs) : (Builtin.firstCells size n (.slice a m cap)).run P w = .ok cs w := by
  unfold rdS at h
  split at h
  · cases h; simp [Builtin.firstCells, go_sem]
  · simp only [Builtin.firstCells, rdA_run h]
  · cases h
theorem growBy_le (n : Nat) : ∀ (r c : Nat), c ≤ 2 * n + 200 → Builtin.growBy n r c ≤ 2 * n + 200
  | 0, c, h => h
  | r + 1, c, h => by
    unfold Builtin.growBy
    split
    · exact h
    · exact growBy_le n r _ (by omega)
theorem nextcap_le {n c : Nat} (h : c < n) : Builtin.nextslicecap n c ≤ 2 * n + 200 := by
  unfold Builtin.nextslicecap
  split
  · omega
  · split
    · omega
    · exact growBy_le n 4 c (by omega)
theorem wrS_run {o : Nat} {l : List Value} {a : Option Addr} {H' : Heap} (h : wrS w.hp o l a = some H') :
    ∃ w', (match a with | none => (pure () : Sem Unit) | some a => storeCells (a.add o) l).run P w = .ok () w' ∧ w'.hp = H' := by
  unfold wrS at h
  split at h
  · cases h; exact ⟨w, by simp [go_sem], rfl⟩
  · obtain ⟨w', h1, h2⟩ := wrA_run (P := P) h
    exact ⟨w', by simp only [addr_add, h1], h2⟩
  · cases h
theorem choose_run (q : Question) (h : q.forced = false) : ∃ n, (choose q).run P w = .ok (q.cut n) { w with drawn := w.drawn + 1 } :=
  ⟨w.tape w.drawn q, by simp [choose, Sem.run, h]⟩
theorem appE_run {t t2 e e2 : TypeId} {ty : TypeId} {i : TypeInfo} {z s x : Value} {k : Value → Heap → Prop}
    (hd : P.underlying t = some (.slice e)) (hd2 : P.underlying t2 = some (.slice e2)) (hi : P.info? e = some i) (hz : i.zero = some z)
    (h : appE e z.cells i.size i.bytes s x w.hp k) :
    ∃ v w', (Builtin.append_ #[t, t2] ty #[s, x]).run P w = .ok v w' ∧ k v w'.hp := by
  unfold appE at h
  split at h
  · rename_i base n cap xb m xcap
    obtain ⟨new, hnew, h⟩ := h
    have r1 : ∀ {w' : World}, w'.hp = w.hp → (Builtin.firstCells i.size m (.slice xb m xcap)).run P w' = .ok new w' := fun {w'} hw => rdS_run (w := w') (by rw [hw]; exact hnew)
    split at h
    · rename_i hle
      obtain ⟨H', hw, hk⟩ := h
      obtain ⟨w', s1, s2⟩ := wrS_run (P := P) hw
      refine ⟨_, w', ?_, by rw [s2]; exact hk⟩
      simp only [Builtin.append_, a0, a1]
      simp only [Sem.run_bind, under_run hd, under_run hd2, size_run hi, Result.andThen, Sem.run_pure, Bool.false_eq_true, if_false, Builtin.lenOf, hle, if_true, Bool.not_false]
      rw [r1 rfl]
      cases base with
      | none => simp only [Sem.run_pure, Result.ok.injEq, true_and] at s1 ⊢; exact s1
      | some a => simp only [Sem.run_bind, s1, Result.andThen, Sem.run_pure]
    · rename_i hle
      obtain ⟨old, hold, ⟨hb, hb0⟩, hk⟩ := h
      have hn1 : n + m ≤ 2 ^ 48 := by
        have : 1 ≤ i.bytes := by omega
        have h2 : (2 * (n + m) + 200) * 1 ≤ (2 * (n + m) + 200) * i.bytes := Nat.mul_le_mul_left _ this
        omega
      have hcap := nextcap_le (n := n + m) (c := cap) (by omega)
      have hbig : ¬ (Builtin.nextslicecap (n + m) cap * i.bytes > 2 ^ 48) := by
        have := Nat.mul_le_mul_right i.bytes hcap
        omega
      obtain ⟨q, hq⟩ := choose_run (P := P) (w := w) (.appendCap (n + m) cap e) rfl
      have hc0 : n + m ≤ (Question.appendCap (n + m) cap e).cut q := by simp only [Question.cut]; omega
      have hc1 : (Question.appendCap (n + m) cap e).cut q < 2 ^ 63 := by
        simp only [Question.cut]
        have := Nat.mod_lt q (show 0 < 2 ^ 63 - (n + m) by omega)
        omega
      generalize (Question.appendCap (n + m) cap e).cut q = c at hq hc0 hc1
      obtain ⟨w', e1, e2⟩ := newRow_run (P := P) (w := { w with drawn := w.drawn + 1 }) e (old ++ new ++ repZ z.cells (c - (n + m)))
      refine ⟨_, w', ?_, by rw [e2]; exact hk c hc0 hc1⟩
      simp only [Builtin.append_, a0, a1]
      simp only [Sem.run_bind, under_run hd, under_run hd2, size_run hi, info_run hi, Result.andThen, Sem.run_pure, Bool.false_eq_true, if_false, Builtin.lenOf, hle, Bool.not_false, if_true]
      have hno' : ¬ ((((n + m : Nat) : Int) > IntKind.i64.max) ∧ (False ∨ i.bytes = 0)) := fun h => hb0 (h.2.resolve_left id)
      have r2 : ∀ {w' : World}, w'.hp = w.hp → (Builtin.firstCells i.size n (.slice base n cap)).run P w' = .ok old w' := fun {w'} hw => rdS_run (w := w') (by rw [hw]; exact hold)
      have r1' := r1 (w' := { w with drawn := w.drawn + 1 }) rfl
      have r2' := r2 (w' := { w with drawn := w.drawn + 1 }) rfl
      have e1 : (newRow e (old ++ new ++ repZ z.cells (c - (n + m)))).run P { w with drawn := w.drawn + 1 } = .ok ⟨w.hp.size, 0, none⟩ w' := e1
      simp only [hno', if_false, Sem.run_bind, info_run hi, Result.andThen, hbig, hq, ask_run, r1', r2', zero_run hi hz, zeroCells_rep, e1, Sem.run_pure]
  · exact h.elim
theorem appZE_run {t t2 e : TypeId} {ik : IntKind} {ty : TypeId} {i : TypeInfo} {z s x : Value} {k : Value → Heap → Prop}
    (hd : P.underlying t = some (.slice e)) (hd2 : P.underlying t2 = some (.int ik)) (hi : P.info? e = some i) (hz : i.zero = some z) (hs : z.cells.size = i.size)
    (h : appZE e z.cells i.size i.bytes s x w.hp k) :
    ∃ v w', (Builtin.append_ #[t, t2] ty #[s, x]).run P w = .ok v w' ∧ k v w'.hp := by
  unfold appZE at h
  split at h
  · rename_i base n cap xk j
    obtain ⟨⟨hj0, hj1, hj2⟩, h⟩ := h
    have wj : IntKind.i64.wrap j = j := i64_wrap hj0 hj1
    have hl : ¬ j < 0 := by omega
    have hb2 : ¬ (j * (i.bytes : Int) > 2 ^ 48) := by omega
    have hint : (match (TypeDesc.int ik : TypeDesc) with | .int _ => true | _ => false) = true := rfl
    have hnew : ∀ w' : World, Sem.run P (if j.toNat * i.size = 0 then (pure #[] : Sem (Array Value)) else do pure (Builtin.zeroCells (← zeroValue e).cells j.toNat)) w' = .ok (repZ z.cells j.toNat) w' := fun w' => by
      by_cases h0 : j.toNat * i.size = 0
      · have e0 : (repZ z.cells j.toNat).size = 0 := by rw [repZ_size, hs]; exact h0
        rw [if_pos h0, Array.eq_empty_of_size_eq_zero e0, Sem.run_pure]
      · rw [if_neg h0]
        simp only [Sem.run_bind, zero_run hi hz, Result.andThen, Sem.run_pure, zeroCells_rep]
    split at h
    · rename_i hle
      obtain ⟨H', hw, hk⟩ := h
      obtain ⟨w', s1, s2⟩ := wrS_run (P := P) hw
      refine ⟨_, w', ?_, by rw [s2]; exact hk⟩
      simp only [Builtin.append_, a0, a1]
      simp only [Sem.run_bind, under_run hd, under_run hd2, size_run hi, info_run hi, Result.andThen, Sem.run_pure, asInt, asIntOf, wj, hl, hb2, if_false, if_true, Bool.not_true, Bool.false_eq_true, hle]
      rw [hnew]
      cases base with
      | none => simp only [Sem.run_pure, Result.ok.injEq, true_and] at s1 ⊢; exact s1
      | some a => simp only [Sem.run_bind, s1, Result.andThen, Sem.run_pure]
    · rename_i hle
      obtain ⟨old, hold, ⟨hb, hb0⟩, hk⟩ := h
      have hn1 : n + j.toNat ≤ 2 ^ 48 := by
        have : 1 ≤ i.bytes := by omega
        have h2 : (2 * (n + j.toNat) + 200) * 1 ≤ (2 * (n + j.toNat) + 200) * i.bytes := Nat.mul_le_mul_left _ this
        omega
      have hcap := nextcap_le (n := n + j.toNat) (c := cap) (by omega)
      have hbig : ¬ (Builtin.nextslicecap (n + j.toNat) cap * i.bytes > 2 ^ 48) := by
        have := Nat.mul_le_mul_right i.bytes hcap
        omega
      obtain ⟨q, hq⟩ := choose_run (P := P) (w := w) (.appendCap (n + j.toNat) cap e) rfl
      have hc0 : n + j.toNat ≤ (Question.appendCap (n + j.toNat) cap e).cut q := by simp only [Question.cut]; omega
      have hc1 : (Question.appendCap (n + j.toNat) cap e).cut q < 2 ^ 63 := by
        simp only [Question.cut]
        have := Nat.mod_lt q (show 0 < 2 ^ 63 - (n + j.toNat) by omega)
        omega
      generalize (Question.appendCap (n + j.toNat) cap e).cut q = c at hq hc0 hc1
      obtain ⟨w', e1, e2⟩ := newRow_run (P := P) (w := { w with drawn := w.drawn + 1 }) e (old ++ repZ z.cells j.toNat ++ repZ z.cells (c - (n + j.toNat)))
      refine ⟨_, w', ?_, by rw [e2]; exact hk c hc0 hc1⟩
      have hmax : ¬ (((n + j.toNat : Nat) : Int) > IntKind.i64.max) := by
        have : IntKind.i64.max = 9223372036854775807 := by decide
        rw [this]; omega
      have r2 : ∀ {w' : World}, w'.hp = w.hp → (Builtin.firstCells i.size n (.slice base n cap)).run P w' = .ok old w' := fun {w'} hw => rdS_run (w := w') (by rw [hw]; exact hold)
      have r2' := r2 (w' := { w with drawn := w.drawn + 1 }) rfl
      have e1 : (newRow e (old ++ repZ z.cells j.toNat ++ repZ z.cells (c - (n + j.toNat)))).run P { w with drawn := w.drawn + 1 } = .ok ⟨w.hp.size, 0, none⟩ w' := e1
      simp only [Builtin.append_, a0, a1]
      simp only [Sem.run_bind, under_run hd, under_run hd2, size_run hi, info_run hi, Result.andThen, Sem.run_pure, asInt, asIntOf, wj, hl, hb2, if_false, if_true, Bool.not_true, Bool.false_eq_true, hle, hmax, false_and, hbig, hq, ask_run, r2']
      rw [hnew]
      simp only [Sem.run_bind, zero_run hi hz, Result.andThen, zeroCells_rep, e1, Sem.run_pure]
  · exact h.elim
theorem cpyE_run {t t2 e : TypeId} {ty : TypeId} {i : TypeInfo} {d s : Value} {k : Value → Heap → Prop}
    (hd : P.underlying t = some (.slice e)) (hi : P.info? e = some i) (h : cpyE i.size d s w.hp k) :
    ∃ v w', (Builtin.copy_ #[t, t2] ty #[d, s]).run P w = .ok v w' ∧ k v w'.hp := by
  unfold cpyE at h
  split at h
  · rename_i base n cap sb m cap2
    obtain ⟨cs, hcs, H', hw, hk⟩ := h
    obtain ⟨w', s1, s2⟩ := wrS_run (P := P) hw
    refine ⟨_, w', ?_, by rw [s2]; exact hk⟩
    have r0 : ((#[t, t2] : Array TypeId)[0]?, (#[Value.slice base n cap, Value.slice sb m cap2] : Array Value)[0]?, (#[Value.slice base n cap, Value.slice sb m cap2] : Array Value)[1]?) = (some t, some (Value.slice base n cap), some (Value.slice sb m cap2)) := rfl
    have r1 : (Builtin.firstCells i.size (Nat.min m n) (.slice sb m cap2)).run P w = .ok cs w := rdS_run hcs
    simp only [Builtin.copy_, r0]
    simp only [Sem.run_bind, under_run hd, Result.andThen, Builtin.lenOf, Sem.run_pure, size_run hi, r1]
    cases base with
    | none => simp only [Sem.run_pure, Result.ok.injEq, true_and, goInt] at s1 ⊢; exact s1
    | some a =>
      have : a.add 0 = a := by simp [Addr.add]
      have s1 : (storeCells a cs.toList).run P w = .ok () w' := by rw [← this]; exact s1
      simp only [Sem.run_bind, s1, Result.andThen, Sem.run_pure, goInt]
  · exact h.elim
theorem clrE_run {t e : TypeId} {ty : TypeId} {i : TypeInfo} {z x : Value} {k : Value → Heap → Prop}
    (hd : P.underlying t = some (.slice e)) (hi : P.info? e = some i) (hz : i.zero = some z) (h : clrE z.cells x w.hp k) :
    ∃ v w', (Builtin.clear_ #[t] ty #[x]).run P w = .ok v w' ∧ k v w'.hp := by
  unfold clrE at h
  have r0 : ∀ y : Value, ((#[t] : Array TypeId)[0]?, (#[y] : Array Value)[0]?) = (some t, some y) := fun _ => rfl
  split at h
  · refine ⟨_, w, ?_, h⟩
    simp only [Builtin.clear_, r0]
    simp [go_sem, under_run hd]
  · rename_i b o n cap
    split at h
    · rename_i h0; subst h0
      refine ⟨_, w, ?_, h⟩
      simp only [Builtin.clear_, r0]
      simp [go_sem, under_run hd]
    · rename_i h0
      obtain ⟨H', hw, hk⟩ := h
      obtain ⟨w', s1, s2⟩ := wrA_run (P := P) hw
      refine ⟨_, w', ?_, by rw [s2]; exact hk⟩
      simp only [Builtin.clear_, r0]
      cases n with
      | zero => exact absurd rfl h0
      | succ n => simp only [Sem.run_bind, under_run hd, Result.andThen, zero_run hi hz, zeroCells_rep, s1, Sem.run_pure]
  · exact h.elim
end
end Go.Hc
set_option linter.unusedSimpArgs false
set_option linter.unusedVariables false
namespace Go.Hc
open Go

/-- What the table says is so. -/
def TabOK (P : Program) (τ : Tab) : Prop :=
  (∀ t ti, τ.ti t = some ti → P.info? t = some ti.info ∧ P.underlying t = some ti.desc ∧ (∀ z, ti.info.zero = some z → z.cells.size = ti.info.size)) ∧
  ∀ t m, τ.eqs t = some m → EqOK P t m

def callV (P : Program) (f : Value) (args : List Value) (H : Heap) (k : Value → Heap → Prop) : Prop :=
  match f with
  | .func (.func f) first cap => EvF P f (first.toList ++ args ++ cap.toList).toArray H k
  | .func (.yield l) first _ => EvY P l (first.toList ++ args).toArray H k
  | _ => False

def eqM (τ : Tab) (t : TypeId) : EqM :=
  match τ.eqs t with
  | some m => .agg m
  | none => match τ.ti t with
    | some ti => match ti.desc with
      | .bool => .bool
      | .pointer _ => .ptr
      | .slice _ => .slice
      | _ => .int
    | none => .int

def elemE (τ : Tab) (t : TypeId) (k : TypeId → TI → Prop) : Prop :=
  match τ.ti t with
  | some ti => match ti.desc with
    | .slice e => match τ.ti e with
      | some te => k e te
      | none => False
    | _ => False
  | none => False

def biE (τ : Tab) (b : Builtin) (ats : List TypeId) (args : List Value) (H : Heap) (k : Value → Heap → Prop) : Prop :=
  match b, ats, args with
  | .len, t :: _, [x] => elemE τ t fun _ _ => bnd (lenV x) fun v => k v H
  | .cap, t :: _, [x] => elemE τ t fun _ _ => bnd (capV x) fun v => k v H
  | .min, _, x :: l => bnd (foldV min2V x l) fun v => k v H
  | .max, _, x :: l => bnd (foldV max2V x l) fun v => k v H
  | .append, [t, t2], [s, x] => match τ.ti t2 with
    | some ti2 => match ti2.desc with
      | .slice _ => elemE τ t fun e te => match te.info.zero with
        | some z => appE e z.cells te.info.size te.info.bytes s x H k
        | none => False
      | .int _ => elemE τ t fun e te => match te.info.zero with
        | some z => appZE e z.cells te.info.size te.info.bytes s x H k
        | none => False
      | _ => False
    | none => False
  | .copy, [t, _], [d, s] => elemE τ t fun _ te => cpyE te.info.size d s H k
  | .clear, [t], [x] => elemE τ t fun _ te => match te.info.zero with
    | some z => clrE z.cells x H k
    | none => False
  | _, _, _ => False

def opE (τ : Tab) (P : Program) (op : Op) (ρ : Operand → Value) (H : Heap) (k : Value → Heap → Prop) : Prop :=
  match op with
  | .move x | .assign x => k (ρ x) H
  | .pick c a b => pickE (ρ c) (ρ a) (ρ b) H k
  | .alloc t => match τ.ti t with
    | some ti => match ti.info.zero with
      | some z => k (adr H) (newB H t z.cells)
      | none => False
    | none => False
  | .box t x => k (adr H) (newB H t (ρ x).cells)
  | .build t parts => match τ.ti t with
    | some ti => match ti.desc, ti.info.zero with
      | .struct fs, some z => match fs.toList.mapM (fun f => (τ.ti f.type).map fun j => (f.offset, j.info.size)) with
        | some pl => bnd (buildV z.cells (places pl) (parts.toList.map fun p => (p.1, ρ p.2))) fun v => k v H
        | none => False
      | .array _ e, some z => match τ.ti e with
        | some te => bnd (buildV z.cells (every te.info.size) (parts.toList.map fun p => (p.1, ρ p.2))) fun v => k v H
        | none => False
      | _, _ => False
    | none => False
  | .buildSlice t len parts => elemE τ t fun e te => match te.info.zero with
    | some z => bslE e z.cells te.info.size len (parts.toList.map fun p => (p.1, ρ p.2)) H k
    | none => False
  | .load t x => match τ.ti t with
    | some ti => bnd (ldE (isAggD ti.desc) ti.info.size (ρ x) H) fun v => k v H
    | none => False
  | .store t x y => match τ.ti t with
    | some ti => bnd (stE ti.info.size (ρ x) (ρ y) H) fun H' => k undef H'
    | none => False
  | .nilCheck x => bnd (nilV (ρ x)) fun v => k v H
  | .binOp op t x y _ => bnd (binV (eqM τ t) op (ρ x) (ρ y)) fun v => k v H
  | .unOp op _ x => bnd (unV op (ρ x)) fun v => k v H
  | .convert s t x => match τ.ti s, τ.ti t with
    | some _, some ti => match ti.desc with
      | .int kd => bnd (cvV kd (ρ x)) fun v => k v H
      | _ => False
    | _, _ => False
  | .makeFunc fn first cap => k (.func fn (first.toList.map ρ).toArray (cap.toList.map ρ).toArray) H
  | .makeSlice t l c => elemE τ t fun e te => match te.info.zero with
    | some z => mslE e z.cells te.info.bytes (ρ l) (ρ c) H k
    | none => False
  | .slice t x lo hi mx => match mx with
    | none => elemE τ t fun _ te => bnd (sliceV te.info.size (ρ x) (lo.map ρ) (hi.map ρ)) fun v => k v H
    | some mx => match hi with
      | some hi => elemE τ t fun _ te => bnd (sliceV3 te.info.size (ρ x) (lo.map ρ) (ρ hi) (ρ mx)) fun v => k v H
      | none => False
  | .fieldAddr s x f => match τ.ti s with
    | some ti => match ti.desc with
      | .struct fs => match fs.toList[f]? with
        | some fd => match τ.ti fd.type with
          | some tf => match Nat.beq tf.info.size 0 with
            | true => False
            | false => bnd (faV fd.offset (ρ x)) fun v => k v H
          | none => False
        | none => False
      | _ => False
    | none => False
  | .field s x f => match τ.ti s with
    | some ti => match ti.desc with
      | .struct fs => match fs.toList[f]? with
        | some fd => match τ.ti fd.type with
          | some tf => bnd (fieldV (isAggD tf.desc) tf.info.size fd.offset (ρ x)) fun v => k v H
          | none => False
        | none => False
      | _ => False
    | none => False
  | .indexAddr t x i => match τ.ti t with
    | some ti => match ti.desc with
      | .slice e => match τ.ti e with
        | some te => bnd (ixSV te.info.size (ρ x) (ρ i)) fun v => k v H
        | none => False
      | .array n e => match τ.ti e with
        | some te => bnd (ixAV te.info.size n (ρ x) (ρ i)) fun v => k v H
        | none => False
      | _ => False
    | none => False
  | .index t x i => match τ.ti t with
    | some ti => match ti.desc with
      | .array n e => match τ.ti e with
        | some te => bnd (indexV (isAggD te.desc) te.info.size n (ρ x) (ρ i)) fun v => k v H
        | none => False
      | _ => False
    | none => False
  | .extract x i => bnd (exV i (ρ x)) fun v => k v H
  | .call c => match c.callee with
    | .value f => callV P (ρ f) (c.args.toList.map ρ) H k
    | .builtin b => biE τ b c.argTypes.toList (c.args.toList.map ρ) H k
    | .invoke _ _ => False
  | _ => False

section
variable {P : Program} {τ : Tab}

theorem elemE_spec (hτ : TabOK P τ) {t : TypeId} {k : TypeId → TI → Prop} (h : elemE τ t k) :
    ∃ e te, P.underlying t = some (.slice e) ∧ P.info? e = some te.info ∧ (∀ z, te.info.zero = some z → z.cells.size = te.info.size) ∧ k e te := by
  unfold elemE at h
  split at h
  · rename_i ti ht
    split at h
    · rename_i e hd
      split at h
      · rename_i te he
        have h1 := hτ.1 _ _ ht
        have h2 := hτ.1 _ _ he
        exact ⟨e, te, by rw [h1.2.1, hd], h2.1, h2.2.2, h⟩
      · exact h.elim
    · exact h.elim
  · exact h.elim
theorem eqM_spec (hτ : TabOK P τ) (t : TypeId) : match eqM τ t with
    | .int => True
    | .bool => P.underlying t = some .bool
    | .ptr => ∃ e, P.underlying t = some (.pointer e)
    | .slice => ∃ e, P.underlying t = some (.slice e)
    | .agg m => EqOK P t m := by
  unfold eqM
  cases hm : τ.eqs t with
  | some m => exact hτ.2 t m hm
  | none =>
    cases ht : τ.ti t with
    | none => trivial
    | some ti =>
      have h1 := (hτ.1 _ _ ht).2.1
      dsimp only
      cases hd : ti.desc <;> rw [hd] at h1 <;> dsimp only <;> first | exact trivial | exact h1 | exact ⟨_, h1⟩

/-- Operations that leave the world alone. -/
def quietOp : Op → Bool
  | .move _ | .assign _ | .pick .. | .build .. | .load .. | .nilCheck _ | .binOp .. | .unOp .. | .convert .. | .makeFunc .. | .slice .. | .fieldAddr .. | .field ..
  | .indexAddr .. | .index .. | .extract .. => true
  | .call { callee := .builtin .len, .. } | .call { callee := .builtin .cap, .. } | .call { callee := .builtin .min, .. } | .call { callee := .builtin .max, .. } => true
  | _ => false
/-- What an operation that is no call comes to. -/
theorem opE_value (hτ : TabOK P τ) {o : Oper} {ρ : Operand → Value} {w : World} {k : Value → Heap → Prop} (h : opE τ P o.op ρ w.hp k)
    (hc : ∀ c f, o.op = .call c → c.callee = .value f → False) :
    ∃ v w', ((execOp ρ o).run P w = .ok (.value v) w' ∨ ((execOp ρ o).run P w = .ok .skip w' ∧ v = undef)) ∧ k v w'.hp ∧ (quietOp o.op = true → (execOp ρ o).run P w = .ok (.value v) w) := by
  obtain ⟨dst, op, ty, pos, after, guard⟩ := o
  have val : ∀ {s : Sem Value} {v : Value} {w' : World}, s.run P w = .ok v w' → (do pure (.value (← s)) : Sem Next).run P w = .ok (.value v) w' := by
    intro s v w' hs; simp only [Sem.run_bind, hs, Result.andThen, Sem.run_pure]
  have fin : ∀ (q : Prop) {s : Sem Value} {v : Value}, s.run P w = .ok v w → k v w.hp →
      ∃ v' w', ((do pure (.value (← s)) : Sem Next).run P w = .ok (.value v') w' ∨ ((do pure (.value (← s)) : Sem Next).run P w = .ok .skip w' ∧ v' = undef)) ∧ k v' w'.hp ∧
        (q → (do pure (.value (← s)) : Sem Next).run P w = .ok (.value v') w) := fun q s v hs hk => ⟨v, w, .inl (val hs), hk, fun _ => val hs⟩
  cases op <;> delta opE at h <;> dsimp only at h <;> delta execOp <;> dsimp only
  case move x => exact ⟨_, w, .inl (by simp only [Sem.run_pure]), h, fun _ => by simp only [Sem.run_pure]⟩
  case assign x => exact ⟨_, w, .inl (by simp only [Sem.run_pure]), h, fun _ => by simp only [Sem.run_pure]⟩
  case pick c a b =>
    unfold pickE at h
    split at h
    · rename_i hc'
      have h1 : (do pure (.value (if ← asBool (ρ c) then ρ a else ρ b)) : Sem Next).run P w = .ok (.value (ρ a)) w := by simp [hc', asBool, go_sem]
      exact ⟨_, w, .inl h1, h, fun _ => h1⟩
    · rename_i hc'
      have h1 : (do pure (.value (if ← asBool (ρ c) then ρ a else ρ b)) : Sem Next).run P w = .ok (.value (ρ b)) w := by simp [hc', asBool, go_sem]
      exact ⟨_, w, .inl h1, h, fun _ => h1⟩
    · exact h.elim
  case alloc t =>
    split at h
    · rename_i ti ht
      split at h
      · rename_i z hz
        obtain ⟨w', h1, h2⟩ := alloc_run (w := w) (hτ.1 _ _ ht).1 hz
        exact ⟨_, w', .inl (val h1), by rw [h2]; exact h, fun hq => by cases hq⟩
      · exact h.elim
    · exact h.elim
  case box t x =>
    obtain ⟨w', h1, h2⟩ := box_run (P := P) (w := w) t (ρ x)
    exact ⟨_, w', .inl (val h1), by rw [h2]; exact h, fun hq => by cases hq⟩
  case build t parts =>
    split at h
    · rename_i ti ht
      have hT := hτ.1 _ _ ht
      split at h
      · rename_i fs z hd hz
        split at h
        · rename_i pl hpl
          obtain ⟨v, hv, hk⟩ := h
          suffices h1 : _ from ⟨v, w, .inl (val h1), hk, fun _ => val h1⟩
          refine build_run hT.1 hz (by rw [hT.2.1, hd]) (pl := pl) ?_ ?_
          · rw [← hpl]
            have key : ∀ (l : List Field) (q : List (Nat × Nat)), l.mapM (fun f => (τ.ti f.type).map fun j => (f.offset, j.info.size)) = some q →
                l.mapM (fun f => (P.info? f.type).map fun j => (f.offset, j.size)) = some q := by
              intro l
              induction l with
              | nil => intro q hq; exact hq
              | cons f l ih =>
                intro q hq
                simp only [List.mapM_cons] at hq ⊢
                cases hf : τ.ti f.type with
                | none => simp [hf] at hq
                | some j =>
                  rw [(hτ.1 _ _ hf).1]
                  simp only [hf, Option.map_some] at hq ⊢
                  cases hl : l.mapM (fun f => (τ.ti f.type).map fun j => (f.offset, j.info.size)) with
                  | none => simp [hl] at hq
                  | some q' => rw [ih q' hl]; rw [hl] at hq; exact hq
            rw [hpl]; exact key _ _ hpl
          · simpa using hv
        · exact h.elim
      · rename_i n e z hd hz
        split at h
        · rename_i te he
          obtain ⟨v, hv, hk⟩ := h
          suffices h1 : _ from ⟨v, w, .inl (val h1), hk, fun _ => val h1⟩
          exact build_run_arr hT.1 hz (by rw [hT.2.1, hd]) (hτ.1 _ _ he).1 (by simpa using hv)
        · exact h.elim
      · exact h.elim
    · exact h.elim
  case buildSlice t len parts =>
    obtain ⟨e, te, h1, h2, h3, h⟩ := elemE_spec hτ h
    split at h
    · rename_i z hz
      obtain ⟨v, w', r1, r2⟩ := bslE_run (P := P) (w := w) (parts := parts.map fun p => (p.1, ρ p.2)) h1 h2 hz (h3 z hz) (by simpa using h)
      exact ⟨v, w', .inl (val r1), r2, fun hq => by cases hq⟩
    · exact h.elim
  case load t x =>
    split at h
    · rename_i ti ht
      obtain ⟨v, hv, hk⟩ := h
      exact fin _ (ldE_run (hτ.1 _ _ ht).1 (hτ.1 _ _ ht).2.1 hv) hk
    · exact h.elim
  case store t x y =>
    split at h
    · rename_i ti ht
      obtain ⟨H', hv, hk⟩ := h
      obtain ⟨w', h1, h2⟩ := stE_run (P := P) (hτ.1 _ _ ht).1 hv
      exact ⟨_, w', .inr ⟨by simp only [Sem.run_bind, h1, Result.andThen, Sem.run_pure], rfl⟩, by rw [h2]; exact hk, fun hq => by cases hq⟩
    · exact h.elim
  case nilCheck x =>
    obtain ⟨v, hv, hk⟩ := h
    suffices h1 : _ from ⟨v, w, .inl h1, hk, fun _ => h1⟩
    unfold nilV at hv
    split at hv
    · rename_i hx; cases hv; simp [hx, go_sem]
    · rename_i hx; cases hv; simp [hx, go_sem]
    · rename_i hx; cases hv; simp [hx, go_sem]
    · cases hv
  case binOp op t x y yt =>
    obtain ⟨v, hv, hk⟩ := h
    exact fin _ (binV_run (eqM_spec hτ t) hv) hk
  case unOp op t x =>
    obtain ⟨v, hv, hk⟩ := h
    exact fin _ (unV_run hv) hk
  case convert s t x =>
    split at h
    · rename_i si ti hs ht
      split at h
      · rename_i kd hd
        obtain ⟨v, hv, hk⟩ := h
        exact fin _ (cvV_run (hτ.1 _ _ hs).2.1 (by rw [(hτ.1 _ _ ht).2.1, hd]) hv) hk
      · exact h.elim
    · exact h.elim
  case makeFunc fn first cap =>
    suffices h1 : (Instr.makeFunc fn (first.map ρ) (cap.map ρ)).run P w = _ from ⟨_, w, .inl (val h1), h, fun _ => val h1⟩
    simp only [Instr.makeFunc, Sem.run_pure, Result.ok.injEq, and_true]
    congr 1 <;> apply Array.ext' <;> simp
  case makeSlice t l c =>
    obtain ⟨e, te, h1, h2, h3, h⟩ := elemE_spec hτ h
    split at h
    · rename_i z hz
      obtain ⟨v, w', r1, r2⟩ := mslE_run (P := P) (w := w) h1 h2 hz (h3 z hz) h
      exact ⟨v, w', .inl (val r1), r2, fun hq => by cases hq⟩
    · exact h.elim
  case slice t x lo hi mx =>
    cases mx with
    | some m =>
      cases hi with
      | none => exact h.elim
      | some hi =>
        try dsimp only at h
        obtain ⟨e, te, h1, h2, h3, v, hv, hk⟩ := elemE_spec hτ h
        exact fin _ (sliceV3_run h1 h2 hv) hk
    | none =>
      try dsimp only at h
      obtain ⟨e, te, h1, h2, h3, v, hv, hk⟩ := elemE_spec hτ h
      exact fin _ (sliceV_run h1 h2 hv) hk
  case fieldAddr s x f =>
    split at h
    · rename_i ti ht
      split at h
      · rename_i fs hd
        split at h
        · rename_i fd hf
          split at h
          · rename_i tf hft
            split at h
            · exact h.elim
            · rename_i h0
              obtain ⟨v, hv, hk⟩ := h
              exact fin _ (faV_run (by rw [(hτ.1 _ _ ht).2.1, hd]) (by simpa using hf) (hτ.1 _ _ hft).1 (Nat.ne_of_beq_eq_false h0) hv) hk
          · exact h.elim
        · exact h.elim
      · exact h.elim
    · exact h.elim
  case field s x f =>
    split at h
    · rename_i ti ht
      split at h
      · rename_i fs hd
        split at h
        · rename_i fd hf
          split at h
          · rename_i tf hft
            obtain ⟨v, hv, hk⟩ := h
            exact fin _ (fieldV_run (by rw [(hτ.1 _ _ ht).2.1, hd]) (by simpa using hf) (hτ.1 _ _ hft).1 (hτ.1 _ _ hft).2.1 hv) hk
          · exact h.elim
        · exact h.elim
      · exact h.elim
    · exact h.elim
  case indexAddr t x i =>
    split at h
    · rename_i ti ht
      split at h
      · rename_i e hd
        split at h
        · rename_i te he
          obtain ⟨v, hv, hk⟩ := h
          exact fin _ (ixSV_run (by rw [(hτ.1 _ _ ht).2.1, hd]) (hτ.1 _ _ he).1 hv) hk
        · exact h.elim
      · rename_i n e hd
        split at h
        · rename_i te he
          obtain ⟨v, hv, hk⟩ := h
          exact fin _ (ixAV_run (by rw [(hτ.1 _ _ ht).2.1, hd]) (hτ.1 _ _ he).1 hv) hk
        · exact h.elim
      · exact h.elim
    · exact h.elim
  case index t x i =>
    split at h
    · rename_i ti ht
      split at h
      · rename_i n e hd
        split at h
        · rename_i te he
          obtain ⟨v, hv, hk⟩ := h
          exact fin _ (indexV_run (by rw [(hτ.1 _ _ ht).2.1, hd]) (hτ.1 _ _ he).1 (hτ.1 _ _ he).2.1 hv) hk
        · exact h.elim
      · exact h.elim
    · exact h.elim
  case extract x i =>
    obtain ⟨v, hv, hk⟩ := h
    exact fin _ (exV_run hv) hk
  case call c =>
    split at h
    · rename_i f hf; exact (hc c f rfl hf).elim
    · rename_i b hb
      have hnq : ∀ b, c.callee = .builtin b → quietOp (.call c) = true → b = .len ∨ b = .cap ∨ b = .min ∨ b = .max := by
        obtain ⟨ce, a1, a2⟩ := c
        rintro b rfl
        cases b <;> simp [quietOp]
      have hargs : c.args.map ρ = (c.args.toList.map ρ).toArray := by apply Array.ext'; simp
      have hats : c.argTypes = c.argTypes.toList.toArray := by simp
      obtain ⟨cs, hrun⟩ : ∃ cs, (do let d ← resolve ρ c ty; invoke d.target d.args : Sem Next).run P w = (builtin b c.argTypes ty cs (c.args.map ρ)).run P w := by
        simp only [resolve, hb, Sem.run_bind, Sem.run_pure, Result.andThen, invoke]
        exact ⟨_, rfl⟩
      rw [hrun, hargs, hats]
      generalize c.argTypes.toList = ats at h ⊢
      generalize c.args.toList.map ρ = as at h ⊢
      unfold biE at h
      split at h
      · rename_i t l x
        obtain ⟨e, te, h1, h2, h3, v, hv, hk⟩ := elemE_spec hτ h
        unfold builtin; exact fin _ (lenV_run (ats := (t :: l).toArray) rfl h1 hv) hk
      · rename_i t l x
        obtain ⟨e, te, h1, h2, h3, v, hv, hk⟩ := elemE_spec hτ h
        unfold builtin; exact fin _ (capV_run (ats := (t :: l).toArray) rfl h1 hv) hk
      · obtain ⟨v, hv, hk⟩ := h
        unfold builtin; exact fin _ (min_run hv) hk
      · obtain ⟨v, hv, hk⟩ := h
        unfold builtin; exact fin _ (max_run hv) hk
      · split at h
        · rename_i t t2 _ _ ti2 ht2
          split at h
          · rename_i e2 hd2
            obtain ⟨e, te, h1, h2, h3, h⟩ := elemE_spec hτ h
            split at h
            · rename_i z hz
              obtain ⟨v, w', r1, r2⟩ := appE_run (P := P) (w := w) (ty := ty) h1 (by rw [(hτ.1 _ _ ht2).2.1, hd2]) h2 hz h
              exact ⟨v, w', .inl (by unfold builtin; exact val r1), r2, fun hq => by rcases hnq _ hb hq with e | e | e | e <;> cases e⟩
            · exact h.elim
          · rename_i ik hd2
            obtain ⟨e, te, h1, h2, h3, h⟩ := elemE_spec hτ h
            split at h
            · rename_i z hz
              obtain ⟨v, w', r1, r2⟩ := appZE_run (P := P) (w := w) (ty := ty) h1 (by rw [(hτ.1 _ _ ht2).2.1, hd2]) h2 hz (h3 z hz) h
              exact ⟨v, w', .inl (by unfold builtin; exact val r1), r2, fun hq => by rcases hnq _ hb hq with e | e | e | e <;> cases e⟩
            · exact h.elim
          · exact h.elim
        · exact h.elim
      · obtain ⟨e, te, h1, h2, h3, h⟩ := elemE_spec hτ h
        obtain ⟨v, w', r1, r2⟩ := cpyE_run (P := P) (w := w) (ty := ty) h1 h2 h
        exact ⟨v, w', .inl (by unfold builtin; exact val r1), r2, fun hq => by rcases hnq _ hb hq with e | e | e | e <;> cases e⟩
      · obtain ⟨e, te, h1, h2, h3, h⟩ := elemE_spec hτ h
        split at h
        · rename_i z hz
          obtain ⟨v, w', r1, r2⟩ := clrE_run (P := P) (w := w) (ty := ty) h1 h2 hz h
          exact ⟨v, w', .inl (by unfold builtin; exact val r1), r2, fun hq => by rcases hnq _ hb hq with e | e | e | e <;> cases e⟩
        · exact h.elim
      · exact h.elim
    · exact h.elim
  all_goals exact h.elim
end
end Go.Hc
set_option linter.unusedSimpArgs false
set_option linter.unusedVariables false
namespace Go.Hc
open Go

theorem getD_lt {l : List Value} {t : Nat} (h : t < l.length) : l.getD t undef = l[t] := by simp [List.getD, h]
theorem getD_ge {l : List Value} {t : Nat} (h : l.length ≤ t) : l.getD t undef = undef := by simp [List.getD, h]
def evL (l : List Value) : Operand → Value
  | .tmp t => l.getD t undef
  | .const v => v
  | .global g => .pointer (some ⟨g, 0, none⟩)
  | .func f => .func (.func f) #[] #[]
def putL (l : List Value) (d : Option Tmp) (v : Value) : List Value :=
  match d with
  | some d => l.set d v
  | none => l
def actL (l : List Value) (d : List Deferred) : Act := ⟨l.toArray, d⟩
theorem eval_actL (l : List Value) (d : List Deferred) : (actL l d).eval = evL l := by
  funext x; cases x <;> simp [Act.eval, evL, actL]
theorem put_actL (l : List Value) (d : List Deferred) (t : Option Tmp) (v : Value) : (actL l d).put t v = actL (putL l t v) d := by
  cases t <;> simp [Act.put, putL, actL]

section
variable {P : Program} {τ : Tab} {r : Option Nat}

theorem Fr_fn (f : FuncId) : (Fr r).fn f := trivial
theorem callsIn_of {f : FuncId} {args : Array Value} {w : World} {R : Ending → World → Prop} (h : Calls P f args w R) : CallsIn (Fr r) 0 P f args w R :=
  show CallsIn Fence.wide 0 P f args w R from callsIn_wide.2 h

/-- An operation of the heap calculus is one of the machine's. -/
theorem opE_wp (hτ : TabOK P τ) {o : Oper} {a : Act} {w : World} {k : Value → Heap → Prop} (h : opE τ P o.op a.eval w.hp k) (Q : Exit → Act → World → Prop) :
    o.wpIn (Fr r) 0 P a w (fun a' w' => ∃ v, a' = a.put o.dst v ∧ k v w'.hp) Q := by
  refine ⟨fun _ _ => trivial, ?_⟩
  have hnd : ∀ c, o.op ≠ .defer c := fun c hc => by rw [hc] at h; exact h
  rw [show (Fr r).round = r from rfl, Oper.semAt_eq r a.eval o hnd]
  by_cases hcall : ∃ c f, o.op = .call c ∧ c.callee = .value f
  · obtain ⟨c, f, ho, hc⟩ := hcall
    rw [ho] at h
    delta opE at h
    dsimp only at h
    rw [hc] at h
    dsimp only at h
    have hargs : c.args.map a.eval = (c.args.toList.map a.eval).toArray := by apply Array.ext'; simp
    unfold execOp
    rw [ho]
    dsimp only
    unfold callV at h
    split at h
    · rename_i g first cap hf
      have e : first ++ (c.args.toList.map a.eval).toArray ++ cap = (first.toList ++ c.args.toList.map a.eval ++ cap.toList).toArray := by apply Array.ext'; simp
      rcases h with ⟨h1, h2⟩ | h2
      case inr =>
        obtain ⟨v, w', h1, h3⟩ := h2 w rfl
        have hr : (do let d ← resolve a.eval c o.type; invoke d.target d.args : Sem Next).run P w = .ok (.value v) w' := by
          simp only [resolve, hc, hf, Deferred.ofValue, Sem.run_bind, Sem.run_pure, Result.andThen, invoke]
          rw [hargs, e]; exact h1
        rw [hr]
        exact ⟨v, rfl, h3⟩
      have hr : (do let d ← resolve a.eval c o.type; invoke d.target d.args : Sem Next).run P w = .ok (.enter g (first.toList ++ c.args.toList.map a.eval ++ cap.toList).toArray) w := by
        simp only [resolve, hc, hf, Deferred.ofValue, Sem.run_bind, Sem.run_pure, Result.andThen, invoke]
        rw [hargs]
        have e : first ++ (c.args.toList.map a.eval).toArray ++ cap = (first.toList ++ c.args.toList.map a.eval ++ cap.toList).toArray := by apply Array.ext'; simp
        rw [e]; exact h1 w
      rw [hr]
      refine ⟨(fun hd => by cases hd), callsIn_of ((h2 w rfl).mono ?_)⟩
      rintro e w' ⟨v, rfl, hv⟩
      exact ⟨v, rfl, hv⟩
    · rename_i l first cap hf
      obtain ⟨fn, tmps, assign, body, h1, h2⟩ := h w rfl
      have hr : (do let d ← resolve a.eval c o.type; invoke d.target d.args : Sem Next).run P w = .ok (.round l fn tmps assign body) w := by
        simp only [resolve, hc, hf, Deferred.ofValue, Sem.run_bind, Sem.run_pure, Result.andThen, invoke]
        rw [hargs]
        have e : first ++ (c.args.toList.map a.eval).toArray = (first.toList ++ c.args.toList.map a.eval).toArray := by apply Array.ext'; simp
        rw [e]; exact h1
      rw [hr]
      refine ⟨(fun hd => by cases hd), ?_⟩
      show RoundIn Fence.wide 0 P l fn tmps assign body w _
      refine h2.mono ?_
      rintro e w' ⟨v, rfl, hv⟩
      exact ⟨v, rfl, hv⟩
    · exact h.elim
  · obtain ⟨v, w', hr, hk, _⟩ := opE_value hτ h (fun c f h1 h2 => hcall ⟨c, f, h1, h2⟩)
    rcases hr with hr | ⟨hr, rfl⟩
    · rw [hr]; exact ⟨v, rfl, hk⟩
    · rw [hr]; exact ⟨undef, rfl, hk⟩

def gU (g : Option (Nat × Bool)) (U : Prop) : Prop := match g with | none => False | some _ => U
/-- Is a guarded operation carried out? The guard's slot is written out as the bool that it is; what is behind an operation that was left out is left out too. -/
def guardE (ops : List Oper) (l : List Value) (g : Option (Nat × Bool)) (A B : List Value → Prop) : Prop :=
  match g with
  | none => A l
  | some (j, want) =>
    match ops[j]? with
    | some oj =>
      match oj.dst with
      | some t =>
        match want with
        | true => brG (l.getD t undef) (A (l.set t (.bool true))) (B (l.set t (.bool false))) (gU oj.guard (B l))
        | false => brG (l.getD t undef) (B (l.set t (.bool true))) (A (l.set t (.bool false))) (gU oj.guard (B l))
      | none => False
    | none => False

theorem set_self {l : List Value} {t : Nat} {v : Value} (h : l.getD t undef = v) (hv : v ≠ undef) : l.set t v = l := by
  by_cases ht : t < l.length
  · have e : l[t] = v := by rw [getD_lt ht] at h; exact h
    apply List.ext_getElem (by simp)
    intro i h1 h2
    rw [List.getElem_set]
    split
    · rename_i hi; subst hi; exact e.symm
    · rfl
  · rw [getD_ge (by omega)] at h; exact absurd h.symm hv

theorem gU_out {g : Option (Nat × Bool)} {U : Prop} (h : gU g U) : U := by
  unfold gU at h; split at h
  · exact h.elim
  · exact h
theorem guardE_spec {ops : List Oper} {l : List Value} {d : List Deferred} {o : Oper} {A B : List Value → Prop} (h : guardE ops l o.guard A B) :
    (Region.wanted o (yielded ops.toArray (actL l d).tmps) = true ∧ A l) ∨ (Region.wanted o (yielded ops.toArray (actL l d).tmps) = false ∧ B l) := by
  unfold guardE at h
  split at h
  · rename_i hg
    exact .inl ⟨by simp [Region.wanted, hg], h⟩
  · rename_i j want hg
    split at h
    · rename_i oj hj
      split at h
      · rename_i t ht
        have hy : ∀ b, l.getD t undef = .bool b → yielded ops.toArray (actL l d).tmps j = some b := by
          intro b hb
          have hlt : t < l.length := by
            rcases Nat.lt_or_ge t l.length with h' | h'
            · exact h'
            · rw [getD_ge h'] at hb; cases hb
          rw [getD_lt hlt] at hb
          simp [yielded, hj, ht, actL, hlt, hb]
        have hn : ∀ vs, l.getD t undef = .tuple vs → yielded ops.toArray (actL l d).tmps j = none := by
          intro vs hb
          rcases Nat.lt_or_ge t l.length with hlt | hlt
          · rw [getD_lt hlt] at hb
            simp [yielded, hj, ht, actL, hlt, hb]
          · simp [yielded, hj, ht, actL, hlt]
        have key : ∀ b, l.getD t undef = .bool b → l.set t (.bool b) = l := fun b hb => set_self hb (by intro h; cases h)
        split at h
        · rcases brG_cases h with ⟨hb, h⟩ | ⟨hb, h⟩ | ⟨⟨vs, hb⟩, h⟩
          · rw [key _ hb] at h; exact .inl ⟨by simp [Region.wanted, hg, hy _ hb], h⟩
          · rw [key _ hb] at h; exact .inr ⟨by simp [Region.wanted, hg, hy _ hb], h⟩
          · exact .inr ⟨by simp [Region.wanted, hg, hn _ hb], gU_out h⟩
        · rcases brG_cases h with ⟨hb, h⟩ | ⟨hb, h⟩ | ⟨⟨vs, hb⟩, h⟩
          · rw [key _ hb] at h; exact .inr ⟨by simp [Region.wanted, hg, hy _ hb], h⟩
          · rw [key _ hb] at h; exact .inl ⟨by simp [Region.wanted, hg, hy _ hb], h⟩
          · exact .inr ⟨by simp [Region.wanted, hg, hn _ hb], gU_out h⟩
      · exact h.elim
    · exact h.elim

/-- A region in the text's order. -/
def seqE (τ : Tab) (P : Program) (ops : List Oper) (K : List Value → Heap → Prop) : List Oper → List Value → Heap → Prop
  | [], l, H => K l H
  | o :: rest, l, H => guardE ops l o.guard
      (fun l => opE τ P o.op (evL l) H fun v H' => seqE τ P ops K rest (putL l o.dst v) H')
      (fun l => seqE τ P ops K rest (putL l o.dst undef) H)

theorem seqE_wp (hτ : TabOK P τ) {ops : List Oper} {K : List Value → Heap → Prop} {Q : Exit → Act → World → Prop} {d : List Deferred}
    (hK : ∀ l w, K l w.hp → Q .normal (actL l d) w) : ∀ (rest : List Oper) (l : List Value) (w : World), seqE τ P ops K rest l w.hp →
    wpListIn (Fr r) 0 P ops.toArray Q rest (actL l d) w
  | [], l, w, h => hK l w h
  | o :: rest, l, w, h => by
    rw [wpListIn]
    rcases guardE_spec (d := d) (o := o) h with ⟨hw, h⟩ | ⟨hw, h⟩
    · rw [if_pos hw]
      refine Oper.wpIn_mono ?_ (opE_wp hτ (by rw [eval_actL]; exact h) Q)
      rintro a' w' ⟨v, rfl, hv⟩
      rw [put_actL]
      exact seqE_wp hτ hK rest _ w' hv
    · rw [if_neg (by rw [hw]; exact Bool.false_ne_true)]
      refine ⟨fun _ _ => trivial, ?_⟩
      rw [put_actL]
      exact seqE_wp hτ hK rest _ w h
end
end Go.Hc
set_option linter.unusedSimpArgs false
set_option linter.unusedVariables false
namespace Go.Hc
open Go

def hasEdge (ops : Array Oper) (j i : Nat) : Bool := (ops[j]?).any fun o => o.after.any fun e => Region.binds .any e && e.on == i

section
variable {P : Program} {τ : Tab} {r : Option Nat} {ops : Array Oper} {Q : Exit → Act → World → Prop}

/-- Whatever order is picked from here on; 'pend': operations that were taken early, each with what must stay true till it really comes up. -/
def wpP (r : Option Nat) (P : Program) (ops : Array Oper) (Q : Exit → Act → World → Prop) : Nat → Array Bool → List (Nat × (World → Prop)) → Act → World → Prop
  | 0, listed, _, a, w => Region.ready .any ops listed = [] ∧ Q .normal a w
  | fuel + 1, listed, pend, a, w =>
    (Region.ready .any ops listed = [] → Q .normal a w) ∧
    ∀ j ∈ Region.ready .any ops listed, wpOpIn (Fr r) 0 P ops Q j (fun a' w' =>
      (∀ p ∈ pend, hasEdge ops j p.1 = false → p.2 w') ∧ wpP r P ops Q fuel (listed.setIfInBounds j true) (pend.filter fun p => !hasEdge ops j p.1) a' w') a w

theorem wpP_any : ∀ (fuel : Nat) (listed : Array Bool) (pend : List (Nat × (World → Prop))) (a : Act) (w : World), wpP r P ops Q fuel listed pend a w →
    wpAnyIn (Fr r) 0 P .any ops Q fuel listed a w
  | 0, _, _, _, _, h => h
  | fuel + 1, _, _, _, _, h => ⟨h.1, fun j hj => wpOpIn_mono (fun _ _ h' => wpP_any fuel _ _ _ _ h'.2) (h.2 j hj)⟩

theorem wpP_weak : ∀ (fuel : Nat) (listed : Array Bool) (pend pend' : List (Nat × (World → Prop))) (a : Act) (w : World), (∀ p ∈ pend', p ∈ pend ∨ ∀ w, p.2 w) →
    wpP r P ops Q fuel listed pend a w → wpP r P ops Q fuel listed pend' a w
  | 0, _, _, _, _, _, _, h => h
  | fuel + 1, _, pend, pend', _, _, hs, h => ⟨h.1, fun j hj => wpOpIn_mono (fun _ w' h' => ⟨fun p hp he => (hs p hp).elim (fun h1 => h'.1 p h1 he) (fun h1 => h1 w'),
      wpP_weak fuel _ _ _ _ _ (fun p hp => by
        rw [List.mem_filter] at hp
        exact (hs p hp.1).imp (fun h1 => List.mem_filter.2 ⟨h1, hp.2⟩) id) h'.2⟩) (h.2 j hj)⟩

/-- Where o's slot is filled in the frame a, o itself comes to v at every world that S holds of, and leaves the world alone. -/
def TakesTo (P : Program) (ops : Array Oper) (S : World → Prop) (o : Oper) (v : Value) (a : Act) : Prop :=
  (Region.wanted o (yielded ops a.tmps) = true ∧ ∀ w, S w → (execOp a.eval o).run P w = .ok (.value v) w) ∨ (Region.wanted o (yielded ops a.tmps) = false ∧ v = undef)

def plainOp (o : Oper) : Bool := match o.op with | .select .. | .defer _ => false | _ => true
theorem plainOp_sel {o : Oper} (h : plainOp o = true) (cs : Array SelectCase) (b : Bool) : o.op ≠ .select cs b := by
  intro e; simp [plainOp, e] at h
theorem plainOp_def {o : Oper} (h : plainOp o = true) (c : Call) : o.op ≠ .defer c := by
  intro e; simp [plainOp, e] at h

theorem TakesTo.here {S : World → Prop} {i : Nat} {o : Oper} {v : Value} {a : Act} {w : World} {K : Act → World → Prop} (hi : ops[i]? = some o) (hp : plainOp o = true)
    (h : TakesTo P ops S o v a) (hS : S w) (hK : K (a.put o.dst v) w) : wpOpIn (Fr r) 0 P ops Q i K a w := by
  unfold wpOpIn
  simp only [hi]
  rcases h with ⟨hw, hv⟩ | ⟨hw, rfl⟩
  · simp only [hw, if_true, Oper.wpIn]
    refine ⟨fun _ _ => trivial, ?_⟩
    rw [show (Fr r).round = r from rfl, Oper.semAt_eq r a.eval o (plainOp_def hp), hv w hS]
    exact hK
  · simp only [hw, Bool.false_eq_true, if_false]
    exact ⟨fun _ _ => trivial, hK⟩

/-- oj, carried out in a frame in which oi's slot is filled already: as if it were filled behind. -/
theorem put_behind {S : World → Prop} {j : Nat} {oi oj : Oper} {v : Value} {K : Act → World → Prop} {a : Act} {w : World} (hj : ops[j]? = some oj) (hap : oi.apart ops oj = true)
    (hpi : plainOp oi = true) (hpj : plainOp oj = true) (hQ : ∀ c a w, ¬ Q (.panic c) a w) (hy : TakesTo P ops S oi v a)
    (h : wpOpIn (Fr r) 0 P ops Q j K (a.put oi.dst v) w) : wpOpIn (Fr r) 0 P ops Q j (fun a' w' => TakesTo P ops S oi v a' ∧ K (a'.put oi.dst v) w') a w := by
  obtain ⟨h1, h2, h3⟩ := Oper.apart_spec hap
  have keep : ∀ u, TakesTo P ops S oi v (a.put oj.dst u) := fun u => by
    unfold TakesTo
    rw [execOp_put oi (plainOp_sel hpi) a oj.dst u h3, wanted_put oi a oj.dst u h3]
    exact hy
  unfold wpOpIn at *
  simp only [hj] at *
  rw [wanted_put oj a oi.dst v h1] at h
  by_cases hw : Region.wanted oj (yielded ops a.tmps) = true
  · simp only [hw, if_true] at h ⊢
    obtain ⟨_, h⟩ := h
    refine ⟨fun _ _ => trivial, ?_⟩
    rw [show (Fr r).round = r from rfl, Oper.semAt_eq r _ oj (plainOp_def hpj)] at h ⊢
    rw [execOp_put oj (plainOp_sel hpj) a oi.dst v h1] at h
    generalize (execOp a.eval oj).run P w = res at h ⊢
    cases res with
    | ok x w' =>
      cases x <;> simp only [Oper.uponIn] at h ⊢
      case value u => exact ⟨keep u, by rw [← Act.put_comm a v u h2]; exact h⟩
      case skip => exact ⟨keep _, by rw [← Act.put_comm a v undef h2]; exact h⟩
      case defer d =>
        refine ⟨?_, ?_⟩
        · have k1 := keep undef
          unfold TakesTo at k1 ⊢
          rw [← Act.put_defers]
          exact k1
        · rw [← Act.put_comm _ v undef h2, ← Act.put_defers]
          exact h
      case enter f args =>
        refine ⟨h.1, h.2.mono fun e w'' he => ?_⟩
        cases e with
        | returned u => exact ⟨keep u, by rw [← Act.put_comm a v u h2]; exact he⟩
        | panicked c => exact (hQ _ _ _ he).elim
        | outgrown => exact he
      case row row args => exact ⟨h.1, h.2.mono fun u w'' he => ⟨keep u, by rw [← Act.put_comm a v u h2]; exact he⟩⟩
      case round l f tmps assign body =>
        refine ⟨h.1, h.2.mono fun e w'' he => ?_⟩
        cases e with
        | returned u => exact ⟨keep u, by rw [← Act.put_comm a v u h2]; exact he⟩
        | panicked c => exact (hQ _ _ _ he).elim
        | outgrown => exact he
    | halt x w' =>
      cases x <;> simp only [Oper.uponIn] at h ⊢
      case panic u => exact (hQ _ _ _ h).elim
  · simp only [hw] at h ⊢
    exact ⟨fun _ _ => trivial, keep _, by rw [← Act.put_comm a v undef h2]; exact h.2⟩

theorem noEdge_of_ready {i j : Nat} {listed : Array Bool} (hi : i ∈ Region.ready .any ops listed) (hj : j ∈ Region.ready .any ops listed) : hasEdge ops j i = false := by
  obtain ⟨hjun, oj, hoj, hall⟩ := mem_ready.1 hj
  have h0 := (mem_ready.1 hi).1
  unfold hasEdge
  rw [hoj, Option.any_some]
  rw [Bool.eq_false_iff]
  intro h
  rw [Array.any_eq_true] at h
  obtain ⟨q, hq, hb⟩ := h
  have he := Array.getElem_mem hq
  generalize oj.after[q] = e at he hb
  simp only [Bool.and_eq_true, beq_iff_eq] at hb
  have h1 := hall e he hb.1
  rw [hb.2] at h1
  rcases Nat.lt_or_ge i listed.size with h' | h'
  · simp [h'] at h0 h1; rw [h0] at h1; cases h1
  · simp [Array.getElem?_eq_none h'] at h1

/-- **Taken first.** -/
theorem wpP_first {S : World → Prop} {i : Nat} {oi : Oper} {v : Value} (hi : ops[i]? = some oi) (hpl : ∀ (j : Nat) (o : Oper), ops[j]? = some o → plainOp o = true)
    (hQ : ∀ c a w, ¬ Q (.panic c) a w) :
    ∀ (fuel : Nat) (listed : Array Bool) (pend : List (Nat × (World → Prop))) (a : Act) (w : World),
      (∀ j oj, ops[j]? = some oj → j ≠ i → listed.getD j true = false → (∀ e ∈ oj.after, Region.binds .any e = true → e.on ≠ i) → oi.apart ops oj = true) →
      i ∈ Region.ready .any ops listed → TakesTo P ops S oi v a → S w → (∀ p ∈ pend, p.2 w) →
      wpP r P ops Q fuel (listed.setIfInBounds i true) ((i, S) :: pend) (a.put oi.dst v) w → wpP r P ops Q (fuel + 1) listed pend a w := by
  intro fuel
  have here : ∀ (fuel : Nat) (listed : Array Bool) (pend : List (Nat × (World → Prop))) (a : Act) (w : World), TakesTo P ops S oi v a → S w → (∀ p ∈ pend, p.2 w) →
      wpP r P ops Q fuel (listed.setIfInBounds i true) ((i, S) :: pend) (a.put oi.dst v) w → wpOpIn (Fr r) 0 P ops Q i (fun a' w' =>
        (∀ p ∈ pend, hasEdge ops i p.1 = false → p.2 w') ∧ wpP r P ops Q fuel (listed.setIfInBounds i true) (pend.filter fun p => !hasEdge ops i p.1) a' w') a w := by
    intro fuel listed pend a w hy hS hP H
    refine hy.here hi (hpl i oi hi) hS ⟨fun p hp _ => hP p hp, wpP_weak _ _ _ _ _ _ (fun p hp => ?_) H⟩
    exact .inl (List.mem_cons_of_mem _ (List.mem_filter.1 hp).1)
  induction fuel with
  | zero =>
    intro listed pend a w _ hr hy hS hP H
    refine ⟨fun h => (by rw [h] at hr; cases hr), fun j hj => ?_⟩
    by_cases hji : j = i
    · subst hji; exact here 0 listed pend a w hy hS hP H
    · have := ready_mono hj hji
      rw [H.1] at this
      cases this
  | succ fuel ih =>
    intro listed pend a w hfree hr hy hS hP H
    refine ⟨fun h => (by rw [h] at hr; cases hr), fun j hj => ?_⟩
    by_cases hji : j = i
    · subst hji; exact here (fuel + 1) listed pend a w hy hS hP H
    · have h1 := H.2 j (ready_mono hj hji)
      obtain ⟨hjun, oj, hoj, hall⟩ := mem_ready.1 hj
      have hne := noEdge_of_ready hr hj
      have hnot : ∀ e ∈ oj.after, Region.binds .any e = true → e.on ≠ i := fun e he hb heq => by
        unfold hasEdge at hne
        rw [hoj, Option.any_some, Bool.eq_false_iff] at hne
        obtain ⟨q, hq, rfl⟩ := Array.mem_iff_getElem.1 he
        exact hne (Array.any_eq_true.2 ⟨q, hq, by simp [hb, heq]⟩)
      have h2 := put_behind hoj (hfree j oj hoj hji hjun hnot) (hpl i oi hi) (hpl j oj hoj) hQ hy h1
      have hfree' : ∀ k ok, ops[k]? = some ok → k ≠ i → (listed.setIfInBounds j true).getD k true = false →
          (∀ e ∈ ok.after, Region.binds .any e = true → e.on ≠ i) → oi.apart ops ok = true := fun k ok hk hki hun hno => by
        refine hfree k ok hk hki ?_ hno
        by_cases hjk : j = k
        · subst hjk; exact hjun
        · rw [getD_set_ne true hjk] at hun; exact hun
      refine wpOpIn_mono (fun a' w' h3 => ?_) h2
      obtain ⟨hy', hp', H'⟩ := h3
      have hSi : S w' := hp' (i, S) List.mem_cons_self hne
      have hP' : ∀ p ∈ pend, hasEdge ops j p.1 = false → p.2 w' := fun p hp he => hp' p (List.mem_cons_of_mem _ hp) he
      refine ⟨hP', ih (listed.setIfInBounds j true) _ a' w' hfree' (ready_mono hr (Ne.symm hji)) hy' hSi (fun p hp => ?_) ?_⟩
      · rw [List.mem_filter] at hp
        exact hP' p hp.1 (by simpa using hp.2)
      · rw [Array.setIfInBounds_comm _ _ hji]
        have e : List.filter (fun p : Nat × (World → Prop) => !hasEdge ops j p.1) ((i, S) :: pend) = (i, S) :: pend.filter fun p => !hasEdge ops j p.1 := by
          rw [List.filter_cons]; simp [hne]
        rw [e] at H'
        exact H'
theorem wpP_done {listed : Array Bool} {pend : List (Nat × (World → Prop))} {a : Act} {w : World} (hr : Region.ready .any ops listed = []) (h : Q .normal a w) :
    ∀ fuel, wpP r P ops Q fuel listed pend a w
  | 0 => ⟨hr, h⟩
  | _ + 1 => ⟨fun _ => h, by rw [hr]; simp⟩
end

/-- What comes up next. -/
inductive Pl where
  | nil
  | one (i : Nat) (p : Pl)
  | two (i : Nat) (p : Pl) (j : Nat) (q : Pl)

def planOK (ops : Array Oper) : Pl → Nat → Array Bool → Bool
  | .nil, _, listed => (Region.ready .any ops listed).isEmpty
  | .one _ _, 0, _ => false
  | .one i p, fuel + 1, listed =>
    (match ops[i]? with
     | some o => match quietOp o.op with
       | true => (Region.ready .any ops listed).contains i && Region.free .any ops listed i
       | false => Region.ready .any ops listed == [i]
     | none => false) && planOK ops p fuel (listed.setIfInBounds i true)
  | .two _ _ _ _, 0, _ => false
  | .two i p j q, fuel + 1, listed =>
    (match ops[i]?, ops[j]? with
     | some oi, some oj => !quietOp oi.op && !quietOp oj.op && Region.ready .any ops listed == [i, j]
     | _, _ => false) && planOK ops p fuel (listed.setIfInBounds i true) && planOK ops q fuel (listed.setIfInBounds j true)

def edgeB (o : Oper) (i : Nat) : Bool := o.after.toList.any fun e => Region.binds .any e && e.on == i
def pendE (o : Oper) (H : Heap) (K : Prop) : List (Nat × (Heap → Prop)) → Prop
  | [] => K
  | p :: l => match edgeB o p.1 with
    | true => pendE o H K l
    | false => p.2 H ∧ pendE o H K l
def pendF (o : Oper) : List (Nat × (Heap → Prop)) → List (Nat × (Heap → Prop))
  | [] => []
  | p :: l => match edgeB o p.1 with
    | true => pendF o l
    | false => p :: pendF o l
def addP (τ : Tab) (P : Program) (i : Nat) (op : Op) (ρ : Operand → Value) (v : Value) (pend : List (Nat × (Heap → Prop))) : List (Nat × (Heap → Prop)) :=
  match op with
  | .load t x => (i, fun H' => opE τ P (.load t x) ρ H' fun v' _ => v' = v) :: pend
  | _ => pend
def oneE (τ : Tab) (P : Program) (ops : List Oper) (i : Nat) (K : List (Nat × (Heap → Prop)) → List Value → Heap → Prop) (pend : List (Nat × (Heap → Prop))) (l : List Value) (H : Heap) : Prop :=
  match ops[i]? with
  | none => False
  | some o => match quietOp o.op with
    | true => guardE ops l o.guard (fun l => opE τ P o.op (evL l) H fun v _ => K (addP τ P i o.op (evL l) v pend) (putL l o.dst v) H) (fun l => K pend (putL l o.dst undef) H)
    | false => guardE ops l o.guard (fun l => opE τ P o.op (evL l) H fun v H' => pendE o H' (K (pendF o pend) (putL l o.dst v) H') pend) (fun l => K (pendF o pend) (putL l o.dst undef) H)
def planE (τ : Tab) (P : Program) (ops : List Oper) (K : List Value → Heap → Prop) : Pl → List (Nat × (Heap → Prop)) → List Value → Heap → Prop
  | .nil, _, l, H => K l H
  | .one i p, pend, l, H => oneE τ P ops i (planE τ P ops K p) pend l H
  | .two i p j q, pend, l, H => oneE τ P ops i (planE τ P ops K p) pend l H ∧ oneE τ P ops j (planE τ P ops K q) pend l H

section
variable {P : Program} {τ : Tab} {r : Option Nat}
/-- F asks one value, the same at every heap. -/
def Asks (F : Heap → (Value → Heap → Prop) → Prop) : Prop := ∃ o : Option Value, ∀ H k, F H k ↔ bnd o fun v => k v H
theorem asks_no {F : Heap → (Value → Heap → Prop) → Prop} (h : ∀ H k, F H k ↔ False) : Asks F := ⟨none, fun H k => by rw [h]; simp⟩
theorem asks_elemE {t : TypeId} {f : TypeId → TI → Option Value} : Asks fun H k => elemE τ t fun e te => bnd (f e te) fun v => k v H := by
  unfold elemE
  cases τ.ti t with
  | none => exact asks_no fun _ _ => Iff.rfl
  | some ti => cases hd : ti.desc <;> first
    | (simp only [hd]; exact asks_no fun _ _ => Iff.rfl)
    | (rename_i e; simp only [hd]; cases τ.ti e with
        | none => exact asks_no fun _ _ => Iff.rfl
        | some te => exact ⟨_, fun _ _ => Iff.rfl⟩)
theorem asks_op {op : Op} {ρ : Operand → Value} (hq : quietOp op = true) (hl : ∀ t x, op ≠ .load t x) : Asks fun H k => opE τ P op ρ H k := by
  cases op <;> try exact absurd hq Bool.false_ne_true
  all_goals (delta opE; try dsimp only)
  case move x => exact ⟨some (ρ x), fun _ _ => by simp⟩
  case assign x => exact ⟨some (ρ x), fun _ _ => by simp⟩
  case pick c a b =>
    unfold pickE
    split
    · exact ⟨some (ρ a), fun _ _ => by simp⟩
    · exact ⟨some (ρ b), fun _ _ => by simp⟩
    · exact asks_no fun _ _ => Iff.rfl
  case build t parts =>
    cases τ.ti t with
    | none => exact asks_no fun _ _ => Iff.rfl
    | some ti =>
      dsimp only
      split
      · split
        · exact ⟨_, fun _ _ => Iff.rfl⟩
        · exact asks_no fun _ _ => Iff.rfl
      · split
        · exact ⟨_, fun _ _ => Iff.rfl⟩
        · exact asks_no fun _ _ => Iff.rfl
      · exact asks_no fun _ _ => Iff.rfl
  case load t x => exact absurd rfl (hl t x)
  case nilCheck => exact ⟨_, fun _ _ => Iff.rfl⟩
  case binOp => exact ⟨_, fun _ _ => Iff.rfl⟩
  case unOp => exact ⟨_, fun _ _ => Iff.rfl⟩
  case convert s t x =>
    split
    · split
      · exact ⟨_, fun _ _ => Iff.rfl⟩
      · exact asks_no fun _ _ => Iff.rfl
    · exact asks_no fun _ _ => Iff.rfl
  case makeFunc => exact ⟨some _, fun _ _ => by rw [bnd_some]⟩
  case slice t x lo hi mx =>
    cases mx with
    | some m => cases hi with
      | none => exact asks_no fun _ _ => Iff.rfl
      | some hi => exact asks_elemE
    | none => exact asks_elemE
  case fieldAddr s x f =>
    split
    · split
      · split
        · split
          · split
            · exact asks_no fun _ _ => Iff.rfl
            · exact ⟨_, fun _ _ => Iff.rfl⟩
          · exact asks_no fun _ _ => Iff.rfl
        · exact asks_no fun _ _ => Iff.rfl
      · exact asks_no fun _ _ => Iff.rfl
    · exact asks_no fun _ _ => Iff.rfl
  case field s x f =>
    split
    · split
      · split
        · split
          · exact ⟨_, fun _ _ => Iff.rfl⟩
          · exact asks_no fun _ _ => Iff.rfl
        · exact asks_no fun _ _ => Iff.rfl
      · exact asks_no fun _ _ => Iff.rfl
    · exact asks_no fun _ _ => Iff.rfl
  case indexAddr t x i =>
    split
    · split
      · split
        · exact ⟨_, fun _ _ => Iff.rfl⟩
        · exact asks_no fun _ _ => Iff.rfl
      · split
        · exact ⟨_, fun _ _ => Iff.rfl⟩
        · exact asks_no fun _ _ => Iff.rfl
      · exact asks_no fun _ _ => Iff.rfl
    · exact asks_no fun _ _ => Iff.rfl
  case index t x i =>
    split
    · split
      · split
        · exact ⟨_, fun _ _ => Iff.rfl⟩
        · exact asks_no fun _ _ => Iff.rfl
      · exact asks_no fun _ _ => Iff.rfl
    · exact asks_no fun _ _ => Iff.rfl
  case extract => exact ⟨_, fun _ _ => Iff.rfl⟩
  case call c =>
    obtain ⟨ce, as, ats⟩ := c
    cases ce with
    | value f => exact absurd hq Bool.false_ne_true
    | invoke f m => exact absurd hq Bool.false_ne_true
    | builtin b =>
      cases b <;> try exact absurd hq Bool.false_ne_true
      all_goals (try dsimp only); generalize ats.toList = l1; generalize as.toList.map ρ = l2; unfold biE
      all_goals (split <;> first | exact asks_elemE | exact ⟨_, fun _ _ => Iff.rfl⟩ | exact asks_no (fun _ _ => Iff.rfl) | (rename_i h; cases h))
theorem quiet_val {op : Op} {ρ : Operand → Value} {H : Heap} {k : Value → Heap → Prop} (hq : quietOp op = true) (h : opE τ P op ρ H k) :
    ∃ v, k v H ∧ (opE τ P op ρ H fun v' _ => v' = v) ∧ ((∀ t x, op ≠ .load t x) → ∀ H', opE τ P op ρ H' fun v' _ => v' = v) := by
  by_cases hl : ∃ t x, op = .load t x
  · obtain ⟨t, x, rfl⟩ := hl
    delta opE at h ⊢
    dsimp only at h ⊢
    cases ht : τ.ti t with
    | none => rw [ht] at h; exact h.elim
    | some ti =>
      rw [ht] at h
      obtain ⟨v, hv, hk⟩ := h
      exact ⟨v, hk, ⟨v, hv, rfl⟩, fun hn => absurd rfl (hn t x)⟩
  · obtain ⟨o, ho⟩ := asks_op (τ := τ) (P := P) (ρ := ρ) hq (fun t x e => hl ⟨t, x, e⟩)
    obtain ⟨v, hv, hk⟩ := (ho H k).1 h
    exact ⟨v, hk, (ho H _).2 ⟨v, hv, rfl⟩, fun _ H' => (ho H' _).2 ⟨v, hv, rfl⟩⟩
def liftP (pend : List (Nat × (Heap → Prop))) : List (Nat × (World → Prop)) := pend.map fun p => (p.1, fun w => p.2 w.hp)

theorem edgeB_eq {ops : List Oper} {j : Nat} {o : Oper} (ho : ops[j]? = some o) (i : Nat) : hasEdge ops.toArray j i = edgeB o i := by
  unfold hasEdge edgeB
  rw [List.getElem?_toArray, ho, Option.any_some]
  simp
theorem pendF_lift {ops : List Oper} {j : Nat} {o : Oper} (ho : ops[j]? = some o) : ∀ (pend : List (Nat × (Heap → Prop))),
    (liftP pend).filter (fun p => !hasEdge ops.toArray j p.1) = liftP (pendF o pend)
  | [] => rfl
  | p :: l => by
    have ih := pendF_lift ho l
    simp only [liftP, List.map_cons, List.filter_cons, edgeB_eq ho, pendF] at ih ⊢
    cases he : edgeB o p.1
    · simp only [Bool.not_false, if_true, List.map_cons]; rw [← ih]
    · simp only [Bool.not_true, Bool.false_eq_true, if_false]; rw [← ih]
theorem pendE_spec {o : Oper} {H : Heap} {K : Prop} : ∀ {pend : List (Nat × (Heap → Prop))}, pendE o H K pend → K ∧ ∀ p ∈ pend, edgeB o p.1 = false → p.2 H
  | [], h => ⟨h, by simp⟩
  | p :: l, h => by
    simp only [pendE] at h
    cases he : edgeB o p.1
    · simp only [he] at h
      obtain ⟨h1, h2⟩ := pendE_spec h.2
      refine ⟨h1, fun q hq hqe => ?_⟩
      rcases List.mem_cons.1 hq with rfl | hq
      · exact h.1
      · exact h2 q hq hqe
    · simp only [he] at h
      obtain ⟨h1, h2⟩ := pendE_spec h
      refine ⟨h1, fun q hq hqe => ?_⟩
      rcases List.mem_cons.1 hq with rfl | hq
      · rw [he] at hqe; cases hqe
      · exact h2 q hq hqe
theorem pendF_mem {o : Oper} : ∀ {pend : List (Nat × (Heap → Prop))} {p : Nat × (Heap → Prop)}, p ∈ pendF o pend → p ∈ pend ∧ edgeB o p.1 = false
  | [], _, h => by cases h
  | q :: l, p, h => by
    simp only [pendF] at h
    cases he : edgeB o q.1
    · simp only [he] at h
      rcases List.mem_cons.1 h with rfl | h
      · exact ⟨List.mem_cons_self, he⟩
      · exact ⟨List.mem_cons_of_mem _ (pendF_mem h).1, (pendF_mem h).2⟩
    · simp only [he] at h
      exact ⟨List.mem_cons_of_mem _ (pendF_mem h).1, (pendF_mem h).2⟩
theorem liftP_true {pend : List (Nat × (Heap → Prop))} {w : World} (h : ∀ p ∈ pend, p.2 w.hp) : ∀ p ∈ liftP pend, p.2 w := by
  intro p hp
  obtain ⟨q, hq, rfl⟩ := List.mem_map.1 hp
  exact h q hq
theorem pend_of_lift {pend : List (Nat × (Heap → Prop))} {ops : List Oper} {j : Nat} {o : Oper} {w : World} (ho : ops[j]? = some o) (h : ∀ p ∈ pend, edgeB o p.1 = false → p.2 w.hp) :
    ∀ p ∈ liftP pend, hasEdge ops.toArray j p.1 = false → p.2 w := by
  intro p hp he
  obtain ⟨q, hq, rfl⟩ := List.mem_map.1 hp
  rw [edgeB_eq ho] at he
  exact h q hq he

/-- An operation that may write, carried out next. -/
theorem eff_wp (hτ : TabOK P τ) {ops : List Oper} {Q : Exit → Act → World → Prop} {d : List Deferred} {i : Nat} {o : Oper} (ho : ops[i]? = some o) (hq : quietOp o.op = false)
    {K : List (Nat × (Heap → Prop)) → List Value → Heap → Prop} {fuel : Nat} {listed : Array Bool} {pend : List (Nat × (Heap → Prop))} {l : List Value} {w : World}
    (hK : ∀ pend l w, (∀ p ∈ pend, p.2 w.hp) → K pend l w.hp → wpP r P ops.toArray Q fuel (listed.setIfInBounds i true) (liftP pend) (actL l d) w)
    (hP : ∀ p ∈ pend, p.2 w.hp) (h : oneE τ P ops i K pend l w.hp) :
    wpOpIn (Fr r) 0 P ops.toArray Q i (fun a' w' => (∀ p ∈ liftP pend, hasEdge ops.toArray i p.1 = false → p.2 w') ∧
      wpP r P ops.toArray Q fuel (listed.setIfInBounds i true) ((liftP pend).filter fun p => !hasEdge ops.toArray i p.1) a' w') (actL l d) w := by
  unfold oneE at h
  rw [ho] at h
  simp only [hq] at h
  rw [pendF_lift ho]
  unfold wpOpIn
  rw [List.getElem?_toArray, ho]
  dsimp only
  rcases guardE_spec (d := d) (o := o) h with ⟨hw, h⟩ | ⟨hw, h⟩
  · rw [if_pos hw]
    refine Oper.wpIn_mono ?_ (opE_wp hτ (by rw [eval_actL]; exact h) Q)
    rintro a' w' ⟨v, rfl, hv⟩
    obtain ⟨h1, h2⟩ := pendE_spec hv
    rw [put_actL]
    exact ⟨pend_of_lift ho h2, hK _ _ _ (fun p hp => h2 p (pendF_mem hp).1 (pendF_mem hp).2) h1⟩
  · rw [if_neg (by rw [hw]; exact Bool.false_ne_true)]
    refine ⟨fun _ _ => trivial, ?_⟩
    rw [put_actL]
    exact ⟨pend_of_lift ho (fun p hp _ => hP p hp), hK _ _ _ (fun p hp => hP p (pendF_mem hp).1) h⟩

theorem planE_wp (hτ : TabOK P τ) {ops : List Oper} {K : List Value → Heap → Prop} {Q : Exit → Act → World → Prop} {d : List Deferred}
    (hpl : ∀ (j : Nat) (o : Oper), ops.toArray[j]? = some o → plainOp o = true) (hQ : ∀ c a w, ¬ Q (.panic c) a w)
    (hK : ∀ l w, K l w.hp → Q .normal (actL l d) w) : ∀ (pl : Pl) (fuel : Nat) (listed : Array Bool) (pend : List (Nat × (Heap → Prop))) (l : List Value) (w : World),
    planOK ops.toArray pl fuel listed = true → (∀ p ∈ pend, p.2 w.hp) → planE τ P ops K pl pend l w.hp → wpP r P ops.toArray Q fuel listed (liftP pend) (actL l d) w
  | .nil, fuel, listed, pend, l, w, hc, _, h => wpP_done (by simpa [planOK] using hc) (hK l w h) fuel
  | .one i p, 0, listed, pend, l, w, hc, _, h => by cases hc
  | .one i p, fuel + 1, listed, pend, l, w, hc, hP, h => by
    simp only [planOK, Bool.and_eq_true] at hc
    obtain ⟨hc1, hc2⟩ := hc
    split at hc1
    · rename_i o ho
      have ho' : ops[i]? = some o := by simpa using ho
      split at hc1
      · rename_i hq
        simp only [Bool.and_eq_true] at hc1
        have hr : i ∈ Region.ready .any ops.toArray listed := by simpa using hc1.1
        simp only [planE, oneE, ho', hq] at h
        rcases guardE_spec (d := d) (o := o) h with ⟨hw, h⟩ | ⟨hw, h⟩
        · obtain ⟨v, hk, h1, h2⟩ := quiet_val hq h
          have run : ∀ w' : World, (opE τ P o.op (evL l) w'.hp fun v' _ => v' = v) → (execOp (actL l d).eval o).run P w' = .ok (.value v) w' := by
            intro w' hw'
            have hnc : ∀ c f, o.op = .call c → c.callee = .value f → False := by
              intro c f e1 e2
              rw [e1] at hq
              obtain ⟨ce, as, ats⟩ := c
              dsimp only at e2
              subst e2
              exact Bool.false_ne_true hq
            obtain ⟨v1, w1, _, he, hrun⟩ := opE_value hτ hw' hnc
            rw [eval_actL, hrun hq, he]
          by_cases hl : ∃ t x, o.op = .load t x
          · obtain ⟨t, x, hl⟩ := hl
            refine wpP_first (S := fun w' => opE τ P o.op (evL l) w'.hp fun v' _ => v' = v) (v := v) ho hpl hQ fuel listed (liftP pend) (actL l d) w (Region.free_spec ho hc1.2) hr
              (.inl ⟨hw, fun w' hw' => run w' hw'⟩) h1 (liftP_true hP) ?_
            rw [put_actL]
            have hadd : addP τ P i o.op (evL l) v pend = (i, fun H' => opE τ P o.op (evL l) H' fun v' _ => v' = v) :: pend := by rw [hl]; rfl
            rw [hadd] at hk
            refine planE_wp hτ hpl hQ hK p fuel _ _ _ w hc2 ?_ hk
            intro q hq'
            rcases List.mem_cons.1 hq' with rfl | hq'
            · exact h1
            · exact hP q hq'
          · have hl' : ∀ t x, o.op ≠ .load t x := fun t x e => hl ⟨t, x, e⟩
            refine wpP_first (S := fun _ => True) (v := v) ho hpl hQ fuel listed (liftP pend) (actL l d) w (Region.free_spec ho hc1.2) hr
              (.inl ⟨hw, fun w' _ => run w' (h2 hl' w'.hp)⟩) trivial (liftP_true hP) ?_
            rw [put_actL]
            have hadd : addP τ P i o.op (evL l) v pend = pend := by
              unfold addP
              split
              · rename_i e; exact absurd e (hl' _ _)
              · rfl
            rw [hadd] at hk
            refine wpP_weak _ _ (liftP pend) _ _ _ ?_ (planE_wp hτ hpl hQ hK p fuel _ _ _ w hc2 hP hk)
            intro q hq'
            rcases List.mem_cons.1 hq' with rfl | hq'
            · exact .inr fun _ => trivial
            · exact .inl hq'
        · refine wpP_first (S := fun _ => True) (v := undef) ho hpl hQ fuel listed (liftP pend) (actL l d) w (Region.free_spec ho hc1.2) hr
            (.inr ⟨hw, rfl⟩) trivial (liftP_true hP) ?_
          rw [put_actL]
          refine wpP_weak _ _ (liftP pend) _ _ _ ?_ (planE_wp hτ hpl hQ hK p fuel _ _ _ w hc2 hP h)
          intro q hq'
          rcases List.mem_cons.1 hq' with rfl | hq'
          · exact .inr fun _ => trivial
          · exact .inl hq'
      · rename_i hq
        have hr : Region.ready .any ops.toArray listed = [i] := by simpa using hc1
        refine ⟨fun h0 => (by rw [hr] at h0; cases h0), fun j hj => ?_⟩
        rw [hr] at hj
        rcases List.mem_singleton.1 hj with rfl
        exact eff_wp hτ ho' hq (fun pend l w hp hk => planE_wp hτ hpl hQ hK p fuel _ _ _ w hc2 hp hk) hP h
    · cases hc1
  | .two i p j q, 0, listed, pend, l, w, hc, _, h => by cases hc
  | .two i p j q, fuel + 1, listed, pend, l, w, hc, hP, h => by
    simp only [planOK, Bool.and_eq_true] at hc
    obtain ⟨⟨hc1, hc2⟩, hc3⟩ := hc
    split at hc1
    · rename_i oi oj hoi hoj
      simp only [Bool.and_eq_true, Bool.not_eq_true', beq_iff_eq] at hc1
      have hoi' : ops[i]? = some oi := by simpa using hoi
      have hoj' : ops[j]? = some oj := by simpa using hoj
      obtain ⟨h1, h2⟩ := h
      refine ⟨fun h0 => (by rw [hc1.2] at h0; cases h0), fun k hk => ?_⟩
      rw [hc1.2] at hk
      rcases List.mem_cons.1 hk with rfl | hk
      · exact eff_wp hτ hoi' hc1.1.1 (fun pend l w hp hk => planE_wp hτ hpl hQ hK p fuel _ _ _ w hc2 hp hk) hP h1
      · rcases List.mem_singleton.1 hk with rfl
        exact eff_wp hτ hoj' hc1.1.2 (fun pend l w hp hk => planE_wp hτ hpl hQ hK q fuel _ _ _ w hc3 hp hk) hP h2
    · cases hc1
end
end Go.Hc

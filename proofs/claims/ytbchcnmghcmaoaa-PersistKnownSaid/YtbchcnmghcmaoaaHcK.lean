/- The heap calculus, part K: how a printed text is run: what each word comes to at values that are known; blocks behind stores and allocations. -/
import Derived.Test.YtbchcnmghcmaoaaHcJ
set_option linter.unusedSimpArgs false
set_option linter.unusedVariables false
namespace Go.Hc
open Go

/-- H' has what H has, but for the blocks of S; blocks may have come. -/
structure Ext (S : List Nat) (H H' : Heap) : Prop where
  size : H.size ≤ H'.size
  same : ∀ b, b < H.size → b ∉ S → H'.arr[b]? = H.arr[b]?
  rest : H'.tape = H.tape ∧ H'.os = H.os ∧ H'.output = H.output
theorem Ext.refl (S : List Nat) (H : Heap) : Ext S H H := ⟨Nat.le_refl _, fun _ _ _ => rfl, rfl, rfl, rfl⟩
theorem Ext.trans {S : List Nat} {H H' H'' : Heap} (h : Ext S H H') (k : Ext S H' H'') : Ext S H H'' :=
  ⟨Nat.le_trans h.size k.size, fun b hb hs => (k.same b (Nat.lt_of_lt_of_le hb h.size) hs).trans (h.same b hb hs), k.rest.1.trans h.rest.1, k.rest.2.1.trans h.rest.2.1, k.rest.2.2.trans h.rest.2.2⟩
theorem Ext.mono {S S' : List Nat} {H H' : Heap} (h : Ext S H H') (hs : ∀ b ∈ S, b ∈ S' ∨ H.size ≤ b) : Ext S' H H' :=
  ⟨h.size, fun b hb hn => h.same b hb fun hm => (hs b hm).elim hn (fun hl => by omega), h.rest⟩
theorem size_newB (H : Heap) (t : TypeId) (c : Array Value) : (newB H t c).size = H.size + 1 := by simp [newB, Heap.size]
theorem Ext.newB {S : List Nat} {H H' : Heap} (h : Ext S H H') (t : TypeId) (c : Array Value) : Ext S H (newB H' t c) := by
  refine ⟨by rw [size_newB]; have := h.size; omega, fun b hb hs => ?_, h.rest⟩
  have h1 : b < H'.arr.size := by have := h.size; unfold Heap.size at *; omega
  rw [← h.same b hb hs, Hc.newB, Array.getElem?_push_lt h1]
  simp [h1]
theorem Ext.setB {S : List Nat} {H H' : Heap} (h : Ext S H H') (b : Nat) (c : Array Value) (hb : b ∈ S ∨ H.size ≤ b) : Ext S H (setB H' b c) :=
  ⟨by rw [size_setB]; exact h.size, fun b' hb' hs => by
    rw [← h.same b' hb' hs, Hc.setB, Array.getElem?_modify]
    have hne : b ≠ b' := fun e => by subst e; exact hb.elim hs (fun hl => by omega)
    simp [hne], h.rest⟩
theorem Ext.blk {S : List Nat} {H H' : Heap} {b : Nat} {c : Array Value} (h : Ext S H H') (hb : blk H b = some c) (hs : b ∉ S) : blk H' b = some c := by
  have := h.same b (blk_lt hb) hs
  unfold Hc.blk at hb ⊢; rw [this]; exact hb
theorem Ext.own {S : List Nat} {H H' : Heap} {b : Nat} {c : Array Value} (h : Ext S H H') (hb : own H b = some c) (hs : b ∉ S) : own H' b = some c := by
  have := h.same b (own_lt hb) hs
  unfold Hc.own at hb ⊢; rw [this]; exact hb

section
variable {H : Heap} {t : TypeId} {c c' : Array Value} {b b' : Nat}
theorem blk_newB_self : blk (newB H t c) H.size = some c := by simp [blk, newB, Heap.size]
theorem own_newB_self : own (newB H t c) H.size = some c := by simp [own, newB, Heap.size]
theorem arr_newB_ne (h : b ≠ H.size) : (newB H t c).arr[b]? = H.arr[b]? := by
  unfold newB Heap.size at *
  rcases Nat.lt_or_ge b H.arr.size with h1 | h1
  · rw [Array.getElem?_push_lt h1]; simp [h1]
  · rw [Array.getElem?_eq_none (by simp; omega), Array.getElem?_eq_none (by omega)]
theorem blk_newB_ne (h : b ≠ H.size) : blk (newB H t c) b = blk H b := by
  unfold blk; rw [arr_newB_ne h]
theorem own_newB_ne (h : b ≠ H.size) : own (newB H t c) b = own H b := by
  unfold own; rw [arr_newB_ne h]
theorem setB_newB_self : setB (newB H t c) H.size c' = newB H t c' := by
  refine heap_ext (fun i => ?_) rfl rfl rfl
  simp only [setB, newB, Heap.size, Array.getElem?_modify, Array.getElem?_push]
  by_cases hi : H.arr.size = i
  · subst hi; simp
  · simp [hi, Ne.symm hi]
theorem setB_newB_ne (h : b ≠ H.size) : setB (newB H t c) b c' = newB (setB H b c') t c := by
  refine heap_ext (fun i => ?_) rfl rfl rfl
  simp only [setB, newB, Array.getElem?_modify, Array.getElem?_push, Array.size_modify]
  unfold Heap.size at h
  by_cases hi : i = H.arr.size
  · subst hi; simp [h]
  · simp [hi]
end

/-! ### words at known values -/
section
variable {H : Heap}
@[congr] theorem bnd_cg {α : Type} {o o' : Option α} {k : α → Prop} (h : o = o') : bnd o k = bnd o' k := by rw [h]
@[congr] theorem EvF_cg {P : Program} {f : FuncId} {a b : Array Value} {H H' : Heap} {Q : Value → Heap → Prop} (h : a = b) (h' : H = H') : EvF P f a H Q = EvF P f b H' Q := by rw [h, h']
@[congr] theorem callV_cg {P : Program} {f f' : Value} {a b : List Value} {H H' : Heap} {Q : Value → Heap → Prop} (h0 : f = f') (h : a = b) (h' : H = H') : callV P f a H Q = callV P f' b H' Q := by rw [h0, h, h']
@[congr] theorem brV_cg {c c' : Value} {A B : Prop} (h : c = c') : brV c A B = brV c' A B := by rw [h]
@[congr] theorem newE_cg {t : TypeId} {c c' : Array Value} {H H' : Heap} {k : Value → Heap → Prop} (h : c = c') (h' : H = H') : newE t c H k = newE t c' H' k := by rw [h, h']
@[congr] theorem pickE_cg {c c' a a' b b' : Value} {H H' : Heap} {k : Value → Heap → Prop} (h : c = c') (ha : a = a') (hb : b = b') (h' : H = H') : pickE c a b H k = pickE c' a' b' H' k := by rw [h, ha, hb, h']
@[congr] theorem mslE_cg {t : TypeId} {z : Array Value} {n : Nat} {a a' b b' : Value} {H H' : Heap} {k : Value → Heap → Prop} (ha : a = a') (hb : b = b') (h' : H = H') : mslE t z n a b H k = mslE t z n a' b' H' k := by rw [ha, hb, h']
@[congr] theorem bslE_cg {t : TypeId} {z : Array Value} {n m : Nat} {a a' : List (Nat × Value)} {H H' : Heap} {k : Value → Heap → Prop} (ha : a = a') (h' : H = H') : bslE t z n m a H k = bslE t z n m a' H' k := by rw [ha, h']
@[congr] theorem appE_cg {t : TypeId} {z : Array Value} {n m : Nat} {a a' b b' : Value} {H H' : Heap} {k : Value → Heap → Prop} (ha : a = a') (hb : b = b') (h' : H = H') : appE t z n m a b H k = appE t z n m a' b' H' k := by rw [ha, hb, h']
@[congr] theorem cpyE_cg {n : Nat} {a a' b b' : Value} {H H' : Heap} {k : Value → Heap → Prop} (ha : a = a') (hb : b = b') (h' : H = H') : cpyE n a b H k = cpyE n a' b' H' k := by rw [ha, hb, h']

@[congr] theorem brG_cg {c c' : Value} {A B U : Prop} (h : c = c') : brG c A B U = brG c' A B U := by rw [h]
theorem brG_t {A B U : Prop} : brG (.bool true) A B U = A := rfl
theorem brG_f {A B U : Prop} : brG (.bool false) A B U = B := rfl
theorem brG_i {A B U : Prop} {b : Bool} (ha : b = true → A) (hb : b = false → B) : brG (.bool b) A B U := by cases b; exact hb rfl; exact ha rfl
theorem brG_d {A B U : Prop} {p : Prop} [Decidable p] (ha : p → A) (hb : ¬ p → B) : brG (.bool (decide p)) A B U := brG_i (fun h => ha (by simpa using h)) (fun h => hb (by simpa using h))
theorem brV_t {A B : Prop} : brV (.bool true) A B = A := rfl
theorem brV_f {A B : Prop} : brV (.bool false) A B = B := rfl
theorem brV_b {A B : Prop} {b : Bool} : brV (.bool b) A B ↔ (b = true → A) ∧ (b = false → B) := by cases b <;> simp [brV, brG]
theorem brV_i {A B : Prop} {b : Bool} (ha : b = true → A) (hb : b = false → B) : brV (.bool b) A B := brV_b.2 ⟨ha, hb⟩
theorem brV_d {A B : Prop} {p : Prop} [Decidable p] (ha : p → A) (hb : ¬ p → B) : brV (.bool (decide p)) A B := brV_b.2 ⟨fun h => ha (by simpa using h), fun h => hb (by simpa using h)⟩
theorem newE_u {t : TypeId} {c : Array Value} {k : Value → Heap → Prop} : newE t c H k = k (.pointer (some ⟨H.size, 0, none⟩)) (newB H t c) := rfl
theorem pickE_t {a b : Value} {k : Value → Heap → Prop} : pickE (.bool true) a b H k = k a H := rfl
theorem pickE_f {a b : Value} {k : Value → Heap → Prop} : pickE (.bool false) a b H k = k b H := rfl
theorem nilV_p {a : Addr} : nilV (.pointer (some a)) = some (.pointer (some a)) := rfl
theorem faV_p {n b o : Nat} : faV n (.pointer (some ⟨b, o, none⟩)) = some (.pointer (some ⟨b, o + n, none⟩)) := rfl
theorem ldE_f {n b o : Nat} : ldE false n (.pointer (some ⟨b, o, none⟩)) H = (blk H b).bind (·[o]?) := by
  unfold ldE; simp only [Bool.false_eq_true, if_false]; cases blk H b <;> rfl
theorem ldE_t {n b o : Nat} : ldE true n (.pointer (some ⟨b, o, none⟩)) H = (rdA H b o n).map .agg := by
  unfold ldE; simp only [if_true]; cases rdA H b o n <;> rfl
theorem rdA_u {n b o : Nat} : rdA H b o n = (blk H b).bind fun c => getC c o n := by unfold rdA; cases blk H b <;> rfl
theorem stE_p {n b o : Nat} {v : Value} : stE n (.pointer (some ⟨b, o, none⟩)) v H = if v.cells.size = n then wrA H b o v.cells.toList else none := rfl
theorem wrA_u {b o : Nat} {l : List Value} {c : Array Value} (h : own H b = some c) (h1 : o + l.length ≤ c.size) (h2 : l.all isCell = true) : wrA H b o l = some (setB H b (splice c o l)) := by
  unfold wrA; rw [h]; simp only [h1, h2, and_self, if_true]
theorem cells_int {k : IntKind} {n : Int} : (Value.int k n).cells = #[.int k n] := rfl
theorem cells_bool {b : Bool} : (Value.bool b).cells = #[.bool b] := rfl
theorem cells_ptr {a : Option Addr} : (Value.pointer a).cells = #[.pointer a] := rfl
theorem cells_slice {a : Option Addr} {n m : Nat} : (Value.slice a n m).cells = #[.slice a n m] := rfl
theorem cells_func {f : Fn} {a b : Array Value} : (Value.func f a b).cells = #[.func f a b] := rfl
theorem cells_agg {cs : Array Value} : (Value.agg cs).cells = cs := rfl
theorem isCell_int {k : IntKind} {n : Int} : isCell (.int k n) = true := rfl
theorem isCell_bool {b : Bool} : isCell (.bool b) = true := rfl
theorem isCell_ptr {a : Option Addr} : isCell (.pointer a) = true := rfl
theorem isCell_slice {a : Option Addr} {n m : Nat} : isCell (.slice a n m) = true := rfl
theorem isCell_func {f : Fn} {a b : Array Value} : isCell (.func f a b) = true := rfl
theorem bin_add {a b : Int} {k : IntKind} {m : EqM} : binV m .add (.int k a) (.int k b) = some (.int k (k.wrap (a + b))) := by simp [binV, intBin]
theorem bin_sub {a b : Int} {k : IntKind} {m : EqM} : binV m .sub (.int k a) (.int k b) = some (.int k (k.wrap (a - b))) := by simp [binV, intBin]
theorem bin_mul {a b : Int} {k : IntKind} {m : EqM} : binV m .mul (.int k a) (.int k b) = some (.int k (k.wrap (a * b))) := by simp [binV, intBin]
theorem bin_quo {a b : Int} {k : IntKind} {m : EqM} (h : b ≠ 0) : binV m .quo (.int k a) (.int k b) = some (.int k (k.wrap (a.tdiv b))) := by simp [binV, intBin, h]
theorem bin_rem {a b : Int} {k : IntKind} {m : EqM} (h : b ≠ 0) : binV m .rem (.int k a) (.int k b) = some (.int k (a.tmod b)) := by simp [binV, intBin, h]
theorem bin_eql {a b : Int} {k : IntKind} {m : EqM} : binV m .eql (.int k a) (.int k b) = some (.bool (a == b)) := by simp [binV, intBin]
theorem bin_neq {a b : Int} {k : IntKind} {m : EqM} : binV m .neq (.int k a) (.int k b) = some (.bool (a != b)) := by simp [binV, intBin]
theorem bin_lss {a b : Int} {k : IntKind} {m : EqM} : binV m .lss (.int k a) (.int k b) = some (.bool (decide (a < b))) := by simp [binV, intBin]
theorem bin_leq {a b : Int} {k : IntKind} {m : EqM} : binV m .leq (.int k a) (.int k b) = some (.bool (decide (a ≤ b))) := by simp [binV, intBin]
theorem bin_gtr {a b : Int} {k : IntKind} {m : EqM} : binV m .gtr (.int k a) (.int k b) = some (.bool (decide (b < a))) := by simp [binV, intBin]
theorem bin_geq {a b : Int} {k : IntKind} {m : EqM} : binV m .geq (.int k a) (.int k b) = some (.bool (decide (b ≤ a))) := by simp [binV, intBin]
theorem bin_eqlb {a b : Bool} : binV .bool .eql (.bool a) (.bool b) = some (.bool (a == b)) := by simp [binV, eqV, isO]
theorem bin_neqb {a b : Bool} : binV .bool .neq (.bool a) (.bool b) = some (.bool (!(a == b))) := by simp [binV, eqV, notO]
theorem bin_eqlp {a : Addr} : binV .ptr .eql (.pointer (some a)) (.pointer none) = some (.bool false) := rfl
theorem bin_eqlp0 {a : Option Addr} : binV .ptr .eql (.pointer none) (.pointer a) = some (.bool a.isNone) := rfl
theorem bin_neqp {a : Addr} : binV .ptr .neq (.pointer (some a)) (.pointer none) = some (.bool true) := rfl
theorem bin_neqp0 {a : Option Addr} : binV .ptr .neq (.pointer none) (.pointer a) = some (.bool !a.isNone) := rfl
theorem bin_eqls {a : Addr} {n m k l : Nat} : binV .slice .eql (.slice (some a) n m) (.slice none k l) = some (.bool false) := rfl
theorem bin_eqls0 {a : Option Addr} {n m k l : Nat} : binV .slice .eql (.slice none n m) (.slice a k l) = some (.bool a.isNone) := rfl
theorem un_not {b : Bool} : unV .not (.bool b) = some (.bool !b) := rfl
theorem un_neg {k : IntKind} {n : Int} : unV .neg (.int k n) = some (.int k (k.wrap (0 - n))) := rfl
theorem len_s {a : Option Addr} {n m : Nat} : lenV (.slice a n m) = some (.int .i64 n) := rfl
theorem cap_s {a : Option Addr} {n m : Nat} : capV (.slice a n m) = some (.int .i64 m) := rfl
theorem ex_t {i : Nat} {vs : Array Value} : exV i (.tuple vs) = vs[i]? := rfl
theorem cv_i {k j : IntKind} {n : Int} : cvV k (.int j n) = some (.int k (k.wrap n)) := rfl
theorem callV_f {P : Program} {f : FuncId} {a b : Array Value} {l : List Value} {k : Value → Heap → Prop} : callV P (.func (.func f) a b) l H k = EvF P f (a.toList ++ l ++ b.toList).toArray H k := rfl
theorem ixS_u {size b o n m : Nat} {k : IntKind} {j : Int} (h : 0 ≤ j ∧ j < (n : Int)) : ixSV size (.slice (some ⟨b, o, none⟩) n m) (.int k j) = some (.pointer (some ⟨b, o + j.toNat * size, none⟩)) := by
  unfold ixSV; simp only [h, and_self, if_true]
theorem ixA_u {size b o n : Nat} {k : IntKind} {j : Int} (h : 0 ≤ j ∧ j < (n : Int)) : ixAV size n (.pointer (some ⟨b, o, none⟩)) (.int k j) = some (.pointer (some ⟨b, o + j.toNat * size, none⟩)) := by
  unfold ixAV; simp only [h, and_self, if_true]
theorem wrap_in {n : Int} (h : -9223372036854775808 ≤ n ∧ n ≤ 9223372036854775807) : IntKind.i64.wrap n = n := IntWalk.i64_in n h
end

end Go.Hc

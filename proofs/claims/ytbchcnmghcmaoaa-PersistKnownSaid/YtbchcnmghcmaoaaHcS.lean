/- The heap calculus, part S: loops' records among the blocks; sequences. -/
import Derived.Test.YtbchcnmghcmaoaaHcR
set_option linter.unusedSimpArgs false
set_option linter.unusedVariables false
namespace Go.Hc
open Go

section
variable {H H' : Heap} {S : List Nat} {o : Obj} {i b : Nat}
theorem size_pushO : (pushO H o).size = H.size + 1 := by simp [pushO, Heap.size]
theorem size_setO : (setO H i o).size = H.size := by simp [setO, Heap.size]
theorem Ext.pushO (h : Ext S H H') (o : Obj) : Ext S H (pushO H' o) := by
  refine ⟨by rw [size_pushO]; have := h.size; omega, fun b hb hs => ?_, h.rest⟩
  have h1 : b < H'.arr.size := by have := h.size; unfold Heap.size at *; omega
  rw [← h.same b hb hs, Hc.pushO, Array.getElem?_push_lt h1]
  simp [h1]
theorem Ext.setO (h : Ext S H H') (i : Nat) (o : Obj) (hb : i ∈ S ∨ H.size ≤ i) : Ext S H (setO H' i o) :=
  ⟨by rw [size_setO]; exact h.size, fun b' hb' hs => by
    rw [← h.same b' hb' hs, Hc.setO, Array.getElem?_setIfInBounds]
    have hne : i ≠ b' := fun e => by subst e; exact hb.elim hs (fun hl => by omega)
    simp [hne], h.rest⟩
theorem arr_pushO_self : (pushO H o).arr[H.size]? = some o := by simp [pushO, Heap.size]
theorem arr_pushO_at (h : i = H.size) : (pushO H o).arr[i]? = some o := by subst h; exact arr_pushO_self
theorem arr_setO_self (h : i < H.size) : (setO H i o).arr[i]? = some o := by
  unfold Heap.size at h; simp [setO, Array.getElem?_setIfInBounds, h]
theorem arr_setO_ne (h : b ≠ i) : (setO H i o).arr[b]? = H.arr[b]? := by simp [setO, Array.getElem?_setIfInBounds, Ne.symm h]
theorem arr_lt {o : Obj} (h : H.arr[i]? = some o) : i < H.size := (Array.getElem?_eq_some_iff.1 h).1
theorem own_setO_ne (h : b ≠ i) : own (setO H i o) b = own H b := by unfold own; rw [arr_setO_ne h]
theorem blk_setO_ne (h : b ≠ i) : blk (setO H i o) b = blk H b := by unfold blk; rw [arr_setO_ne h]
theorem own_ne {c : Array Value} {r : Loop} (h : own H b = some c) (hl : H.arr[i]? = some (.loop r)) : b ≠ i := by
  intro e; subst e; unfold own at h; rw [hl] at h; cases h
theorem own_ned {c : Array Value} {r : Option (List Deferred)} (h : own H b = some c) (hl : H.arr[i]? = some (.deferred r)) : b ≠ i := by
  intro e; subst e; unfold own at h; rw [hl] at h; cases h
theorem OwnL.has {A : Type} {E : Enc A} {v : Value} {l : List A} (h : OwnL E H v S l) : ∀ b ∈ S, ∃ c, own H b = some c := by
  cases h with
  | nil => simp
  | mk ho => simp; exact ⟨_, ho⟩
theorem Ext.arr (h : Ext S H H') (ha : H.arr[i]? = some o) (hi : i ∉ S) : H'.arr[i]? = some o := by rw [h.same i (arr_lt ha) hi]; exact ha
end

theorem OwnL.cell {A : Type} {E : Enc A} {H : Heap} {v : Value} {S : List Nat} {l : List A} (h : OwnL E H v S l) : v.cells = #[v] ∧ isCell v = true := by
  cases h with
  | nil => exact ⟨rfl, rfl⟩
  | mk => exact ⟨rfl, rfl⟩
/-- The function value 'seq' hands, one behind the other, the elements of l to what it is given, whatever that does beyond the blocks U of H0. -/
def Yields {A : Type} (P : Program) (seq : Value) (H0 : Heap) (U : List Nat) (l : List A) (c : A → List Value) : Prop :=
  ∀ (y : Value) (H1 : Heap) (I : Nat → Heap → Prop), I 0 H1 → (∀ k H, I k H → ∀ b ∈ U, H.arr[b]? = H0.arr[b]?) →
    (∀ k (hk : k < l.length) H, I k H → callV P y (c l[k]) H fun v H' => v = .bool true ∧ I (k + 1) H') → callL P seq [y] H1 fun _ H' => I l.length H'
theorem OwnL.same {A : Type} {E : Enc A} {H H' : Heap} {v : Value} {S : List Nat} {l : List A} (h : OwnL E H v S l) (he : ∀ b ∈ S, H'.arr[b]? = H.arr[b]?) : OwnL E H' v S l := by
  cases h with
  | nil => exact .nil
  | mk ho hr hc hl hm => exact .mk (own_same ho (he _ (by simp))) hr hc hl hm
theorem callV_y {P : Program} {l : Nat} {as : List Value} {H : Heap} {k : Value → Heap → Prop} (h : EvY P l as.toArray H k) : callV P (.func (.yield l) #[] #[]) as H k := by
  simpa [callV] using h
end Go.Hc

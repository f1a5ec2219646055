/- The heap calculus, part P: rows that came in. -/
import Derived.Test.YtchdnhbkjfdnmaaHcO
import Derived.ChangeArms
import Derived.Deep.Slices
import Derived.WideKeyPair
set_option linter.unusedSimpArgs false
set_option linter.unusedVariables false
namespace Go.Hc
open Go

def isLeaf : Bool → Value → Prop
  | true, .int .i64 n => In64 n
  | false, .bool _ => True
  | _, _ => False
/-- The kind of the cell at a place of a type's row: a number, or a bool. -/
def leafAt (P : Program) : Nat → TypeId → Nat → Option Bool
  | 0, _, _ => none
  | n + 1, t, j => match P.underlying t with
    | some .bool => if j = 0 then some false else none
    | some (.int .i64) => if j = 0 then some true else none
    | some (.struct fs) => fs.toList.findSome? fun f => if f.offset ≤ j ∧ j < f.offset + P.cellsOf f.type then leafAt P n f.type (j - f.offset) else none
    | _ => none
section
variable {H : Type} {enc : TypeId × Value → H} {P : Program} {w : World} {base : Nat} {sp : Nat → Bool} {held : Bool}
theorem leaf_of_trod : ∀ (n : Nat) (t : TypeId) (j : Nat) (k : Bool) (fuel : Nat) (cs : List Value) (x : DataW H × List MemPlace), leafAt P n t j = some k →
    DataW.trod enc P w base sp held fuel t cs = some x → ∃ v, cs[j]? = some v ∧ isLeaf k v
  | 0, _, _, _, _, _, _, h, _ => by simp [leafAt] at h
  | n + 1, t, j, k, fuel, cs, x, h, hx => by
    unfold leafAt at h
    split at h
    · rename_i hu
      split at h
      · rename_i hj; subst hj; cases h
        obtain ⟨b, rfl, _⟩ := DataW.trod_bool hu hx
        exact ⟨_, rfl, trivial⟩
      · cases h
    · rename_i hu
      split at h
      · rename_i hj; subst hj; cases h
        obtain ⟨a, rfl, _, wa⟩ := DataW.trod_int hu hx
        exact ⟨_, rfl, In64.of_wf wa⟩
      · cases h
    · rename_i fs hu
      obtain ⟨f, hf, hl⟩ := List.exists_of_findSome?_eq_some h
      split at hl
      · rename_i hj
        obtain ⟨xs, m, rfl, _, _, hlen, hall⟩ := DataW.trod_struct hu hx
        obtain ⟨i, hi, hif⟩ := List.getElem_of_mem hf
        have hi' : fs[i]? = some f := by rw [← hif, ← Array.getElem?_toList]; exact List.getElem?_eq_getElem hi
        have h1 := hall i f hi'
        have hix : i < xs.length := by rw [hlen]; simpa using hi
        rw [List.getElem?_eq_getElem hix] at h1
        obtain ⟨v, hv, hk⟩ := leaf_of_trod n f.type (j - f.offset) k m _ _ hl h1
        refine ⟨v, ?_, hk⟩
        rw [List.getElem?_take] at hv
        split at hv
        · rw [List.getElem?_drop] at hv; rw [← hv]; congr 1; omega
        · cases hv
      · cases hl
    · cases h
theorem build_list {A : Type} {Q : Nat → A → Prop} : ∀ n, (∀ i, i < n → ∃ y, Q i y) → ∃ l : List A, l.length = n ∧ ∀ i (hi : i < l.length), Q i l[i]
  | 0, _ => ⟨[], rfl, fun i hi => by simp at hi⟩
  | k + 1, h => by
    obtain ⟨l, hll, hal⟩ := build_list k fun i hi => h i (by omega)
    obtain ⟨y, hy⟩ := h k (by omega)
    refine ⟨l ++ [y], by simp [hll], fun i hi => ?_⟩
    by_cases hik : i < l.length
    · rw [List.getElem_append_left hik]; exact hal i hik
    · have : i = k := by simp at hi; omega
      subst this
      rw [List.getElem_append_right (by omega)]; simpa [hll] using hy
/-- A slice of structs that came in. -/
theorem ShowA.of_rows {A : Type} {E : Enc A} {Good : A → Prop} {t e : TypeId} {a : Option Addr} {len cap : Nat} {d : DataW H} {ps : List MemPlace}
    (ht : P.underlying t = some (.slice e)) (hc : P.cellsOf e = E.sz) (h0 : 0 < E.sz)
    (hel : ∀ (n : Nat) (cs : List Value) (x : DataW H × List MemPlace), cs.length = E.sz → DataW.trod enc P w base sp held n e cs = some x → ∃ y, E.c y = cs.toArray ∧ Good y)
    (h : DataW.Trod enc P w base sp held t (.slice a len cap) d ps) : ∃ l : List A, ShowA E w.hp (.slice a len cap) l ∧ ∀ y ∈ l, Good y := by
  obtain ⟨fuel, hf⟩ := h
  rcases Deep.open_slice ht hf with ⟨hcs, _⟩ | ⟨x, l, c, m, n, D, Pl, hcs, _, hl, hm, hmm, _, hall⟩
  · simp [Value.cells] at hcs
    obtain ⟨rfl, rfl, rfl⟩ := hcs
    exact ⟨[], ⟨⟨none, 0, rfl, by simp⟩, Or.inl rfl⟩, by simp⟩
  · simp [Value.cells] at hcs
    obtain ⟨rfl, rfl, rfl⟩ := hcs
    have hlm : len ≤ m := by rw [hmm]; split <;> omega
    have each : ∀ i, i < len → ∃ y, (∀ j < E.sz, w.cell? (x.add (i * E.sz + j)) = (E.c y)[j]?) ∧ Good y := fun i hi => by
      obtain ⟨cs', h1, h2⟩ := hall i (by omega)
      rw [hc] at h1
      obtain ⟨_, hlen, hcell⟩ := World.cells?_some h1
      obtain ⟨y, hy, hg⟩ := hel _ _ _ hlen h2
      refine ⟨y, fun j hj => ?_, hg⟩
      have := hcell j hj
      rw [hy, List.getElem?_toArray, ← this]
      congr 1
      unfold Addr.add
      by_cases hi0 : i * E.sz = 0
      · simp [hi0]
      · by_cases hj0 : j = 0
        · simp [hj0]
        · rw [if_neg (by omega), if_neg hj0, if_neg hi0]; simp [Nat.add_assoc]
    have hmx : maxLen < 2 ^ 63 := by decide
    have := build_list len each
    obtain ⟨l, hll, hal⟩ := this
    refine ⟨l, ShowA.of_cells hll (by omega) h0 fun _ => ⟨x, rfl, fun i hi => (hal i hi).1⟩, fun y hy => ?_⟩
    obtain ⟨i, hi, rfl⟩ := List.getElem_of_mem hy
    exact (hal i hi).2
end
end Go.Hc

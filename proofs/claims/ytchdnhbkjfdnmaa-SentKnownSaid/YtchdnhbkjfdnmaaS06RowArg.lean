/- Rows of numbers that came in. -/
import Derived.Test.YtchdnhbkjfdnmaaS06Parts
import Derived.Test.YtchdnhbkjfdnmaaHcP
set_option linter.unusedSimpArgs false
set_option linter.unusedVariables false
namespace Go.Hc
open Go Go.Proofs

theorem leaf_int {v : Value} (h : isLeaf true v) : ∃ n, v = iv n ∧ In64 n := by
  cases v with
  | int k n => cases k <;> first | exact ⟨n, rfl, h⟩ | exact h.elim
  | _ => exact h.elim
theorem leaf_bool {v : Value} (h : isLeaf false v) : ∃ b, v = .bool b := by
  cases v with
  | bool b => exact ⟨b, rfl⟩
  | _ => exact h.elim
theorem row_of_trod {H : Type} {enc : TypeId × Value → H} {w : World} {base : Nat} {sp : Nat → Bool} {held : Bool} (n : Nat) (cs : List Value) (x : DataW H × List MemPlace) (hl : cs.length = 4)
    (h : DataW.trod enc Try.prog w base sp held n 41 cs = some x) : ∃ y : Row, rowC y = cs.toArray ∧ InRow y := by
  obtain ⟨v0, h0, g0⟩ := leaf_of_trod 5 41 0 true n cs x (by kernel_rfl) h
  obtain ⟨v1, h1, g1⟩ := leaf_of_trod 5 41 1 true n cs x (by kernel_rfl) h
  obtain ⟨v2, h2, g2⟩ := leaf_of_trod 5 41 2 true n cs x (by kernel_rfl) h
  obtain ⟨v3, h3, g3⟩ := leaf_of_trod 5 41 3 true n cs x (by kernel_rfl) h
  obtain ⟨a0, rfl, i0⟩ := leaf_int g0
  obtain ⟨a1, rfl, i1⟩ := leaf_int g1
  obtain ⟨a2, rfl, i2⟩ := leaf_int g2
  obtain ⟨a3, rfl, i3⟩ := leaf_int g3
  match cs, hl with
  | [c0, c1, c2, c3], _ =>
    simp only [List.getElem?_cons_zero, List.getElem?_cons_succ, Option.some.injEq] at h0 h1 h2 h3
    subst h0; subst h1; subst h2; subst h3
    exact ⟨⟨a0, a1, a2, a3⟩, rfl, i0, i1, i2, i3⟩
end Go.Hc

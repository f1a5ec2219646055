/- Rows of deeds that came in. -/
import Derived.Test.YtchdnhbkjfdnmaaS06Plays
import Derived.Test.YtchdnhbkjfdnmaaS06RowArg
set_option linter.unusedSimpArgs false
set_option linter.unusedVariables false
namespace Go.Hc
open Go Go.Proofs

theorem do_of_trod {H : Type} {enc : TypeId × Value → H} {w : World} {base : Nat} {sp : Nat → Bool} {held : Bool} (n : Nat) (cs : List Value) (x : DataW H × List MemPlace) (hl : cs.length = 9)
    (h : DataW.trod enc Try.prog w base sp held n 54 cs = some x) : ∃ y : Deed, doC y = cs.toArray ∧ InDo y := by
  obtain ⟨v0, h0, g0⟩ := leaf_of_trod 5 54 0 true n cs x (by kernel_rfl) h
  obtain ⟨v1, h1, g1⟩ := leaf_of_trod 5 54 1 true n cs x (by kernel_rfl) h
  obtain ⟨v2, h2, g2⟩ := leaf_of_trod 5 54 2 true n cs x (by kernel_rfl) h
  obtain ⟨v3, h3, g3⟩ := leaf_of_trod 5 54 3 true n cs x (by kernel_rfl) h
  obtain ⟨v4, h4, g4⟩ := leaf_of_trod 5 54 4 true n cs x (by kernel_rfl) h
  obtain ⟨v5, h5, g5⟩ := leaf_of_trod 5 54 5 true n cs x (by kernel_rfl) h
  obtain ⟨v6, h6, g6⟩ := leaf_of_trod 5 54 6 false n cs x (by kernel_rfl) h
  obtain ⟨v7, h7, g7⟩ := leaf_of_trod 5 54 7 false n cs x (by kernel_rfl) h
  obtain ⟨v8, h8, g8⟩ := leaf_of_trod 5 54 8 false n cs x (by kernel_rfl) h
  obtain ⟨a0, rfl, i0⟩ := leaf_int g0
  obtain ⟨a1, rfl, i1⟩ := leaf_int g1
  obtain ⟨a2, rfl, i2⟩ := leaf_int g2
  obtain ⟨a3, rfl, i3⟩ := leaf_int g3
  obtain ⟨a4, rfl, i4⟩ := leaf_int g4
  obtain ⟨a5, rfl, i5⟩ := leaf_int g5
  obtain ⟨a6, rfl⟩ := leaf_bool g6
  obtain ⟨a7, rfl⟩ := leaf_bool g7
  obtain ⟨a8, rfl⟩ := leaf_bool g8
  match cs, hl with
  | [c0, c1, c2, c3, c4, c5, c6, c7, c8], _ =>
    simp only [List.getElem?_cons_zero, List.getElem?_cons_succ, Option.some.injEq] at h0 h1 h2 h3 h4 h5 h6 h7 h8
    subst h0; subst h1; subst h2; subst h3; subst h4; subst h5; subst h6; subst h7; subst h8
    exact ⟨⟨a0, a1, a2, ⟨a3, a4, a5, a6, a7, a8⟩⟩, rfl, i0, i1, i2⟩
end Go.Hc

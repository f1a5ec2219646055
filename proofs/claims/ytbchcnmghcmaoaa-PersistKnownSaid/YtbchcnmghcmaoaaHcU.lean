/- The heap calculus, part U: arrays as arguments. -/
import Derived.Test.YtbchcnmghcmaoaaHcP
import Derived.WideShapes
set_option linter.unusedSimpArgs false
set_option linter.unusedVariables false
namespace Go.Hc
open Go

theorem okWide_array {P : Program} {w : World} {r : Reach} {base : Nat} {t e : TypeId} {n : Nat} {v : Value} (ht : P.underlying t = some (.array n e)) (h : Value.okWide P w r base t v) : ∃ cs, v = .agg cs ∧ cs.size = P.cellsOf t := by
  simp only [Value.okWide, ht] at h
  obtain ⟨cs, h1, h2, _⟩ := h
  exact ⟨cs, h1, h2⟩
theorem ints_of_arg {H : Type} {enc : TypeId × Value → H} {P : Program} {w : World} {base : Nat} {sp : Nat → Bool} {held : Bool} {n : Nat} {t : TypeId} {cs : Array Value} {d : DataW H} {ps : List MemPlace}
    (hleaf : (List.range n).all (fun j => leafAt P 9 t j == some true) = true) (hn : cs.size = n) (h : DataW.Trod enc P w base sp held t (.agg cs) d ps) : ∃ y : Fin n → Int, cs = (intsE n).c y ∧ ∀ i, In64 (y i) := by
  obtain ⟨k, hk⟩ := h
  obtain ⟨y, h1, h2⟩ := ints_of_trod hleaf k cs.toList (d, ps) (by simpa using hn) hk
  exact ⟨y, by rw [h1], h2⟩
theorem ints2 {y : Fin 2 → Int} : (intsE 2).c y = #[.int .i64 (y 0), .int .i64 (y 1)] := by simp [intsE, List.ofFn_succ]
theorem ints3 {y : Fin 3 → Int} : (intsE 3).c y = #[.int .i64 (y 0), .int .i64 (y 1), .int .i64 (y 2)] := by simp [intsE, List.ofFn_succ]
end Go.Hc

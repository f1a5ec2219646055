/- The heap calculus, part O: arguments. -/
import Derived.Test.YtbchcnmghcmaoaaHcN
import Derived.WalkKit
import Derived.ProofKit
import Derived.OpenShut
set_option linter.unusedSimpArgs false
set_option linter.unusedVariables false
namespace Go.Hc
open Go

def intE : Enc Int := ⟨1, #[.int .i64 0], fun i => #[.int .i64 i], fun _ => rfl, rfl, fun _ => by simp [isCell], by simp [isCell]⟩
def In64 (i : Int) : Prop := -9223372036854775808 ≤ i ∧ i ≤ 9223372036854775807
theorem In64.of_wf {n : Int} (h : (Lit.int .i64 n).wf = true) : In64 n := by
  have h1 : IntKind.min .i64 = -9223372036854775808 := by decide
  have h2 : IntKind.max .i64 = 9223372036854775807 := by decide
  simp only [Lit.wf, Bool.and_eq_true, decide_eq_true_eq, h1, h2] at h
  exact h
/-- a slice of numbers that came in -/
theorem ShowA.of_ints {w : World} {a : Option Addr} {len cap : Nat} {zs : List Int}
    (h : (a = none ∧ len = 0 ∧ cap = 0 ∧ zs = []) ∨ ∃ x, a = some x ∧ len ≤ cap ∧ cap ≤ maxLen ∧ zs.length = cap ∧ (∀ i, i < zs.length → w.cell? (x.add i) = some (.int .i64 (zs.getD i 0))) ∧ ∀ n ∈ zs, (Lit.int .i64 n).wf = true) :
    ShowA intE w.hp (.slice a len cap) (zs.take len) ∧ ∀ x ∈ zs.take len, In64 x := by
  rcases h with ⟨rfl, rfl, rfl, rfl⟩ | ⟨x, rfl, hl, hm, hz, hc, hw⟩
  · exact ⟨⟨⟨_, _, rfl, by simp⟩, Or.inl (by simp)⟩, by simp⟩
  · have hlen : (zs.take len).length = len := by rw [List.length_take]; omega
    have hmx : maxLen < 2 ^ 63 := by decide
    refine ⟨ShowA.of_cells hlen (by omega) (by decide) fun _ => ⟨x, rfl, fun i hi j hj => ?_⟩, fun y hy => In64.of_wf (hw y (List.mem_of_mem_take hy))⟩
    have hj0 : j = 0 := by have : j < 1 := hj
                           omega
    subst hj0
    rw [hlen] at hi
    have h1 := hc i (by omega)
    have h2 : i * intE.sz + 0 = i := by show i * 1 + 0 = i; omega
    rw [h2, h1]
    have h3 : zs.getD i 0 = (zs.take len)[i]'(by rw [hlen]; exact hi) := by rw [List.getElem_take, List.getD_eq_getElem?_getD, List.getElem?_eq_getElem (by omega)]; rfl
    rw [h3]; rfl
end Go.Hc

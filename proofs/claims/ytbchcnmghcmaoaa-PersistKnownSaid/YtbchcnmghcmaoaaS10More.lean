/- PersistMore: the statement. -/
import Derived.Test.YtbchcnmghcmaoaaS10H
set_option linter.unusedSimpArgs false
set_option linter.unusedVariables false
namespace Go.Hc
open Go

theorem Sep.ack {H H' : Heap} {s room : Nat} {rs : List Rng} {Qs : List Asr} (h : Sep H H' (setA s room rs :: Qs)) : AckV H' (ptr s) rs := by
  obtain ⟨T, a⟩ := h.set_h
  exact .inr ⟨s, room, T, rfl, a⟩
end Go.Hc

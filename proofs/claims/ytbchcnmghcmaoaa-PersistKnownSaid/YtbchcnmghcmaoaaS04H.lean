/- Sets, among things that lie apart. -/
import Derived.Test.YtbchcnmghcmaoaaS04G
set_option linter.unusedSimpArgs false
set_option linter.unusedVariables false
namespace Go.Hc
open Go

section
variable {H0 H : Heap} {s room : Nat} {rs : List Rng} {Qs : List Asr} {n lo hi : Int} {R : Value → Heap → Prop}
theorem Sep.set_h (h : Sep H0 H (setA s room rs :: Qs)) : ∃ T, SetH H s room rs T := by
  obtain ⟨T, a, _⟩ := h.get; exact ⟨T, a⟩
theorem new_s {room : Int} (h : Sep H0 H Qs) (hr : 1 ≤ room ∧ room ≤ 256) (hR : ∀ s H', Sep H0 H' (setA s room.toNat [] :: Qs) → R (.tuple #[ptr s, iv 0]) H') : EvF P N.span_New #[iv room] H R :=
  spanNew_ev (fun hb => absurd hb (by omega)) fun H' m hm e hs => by
    subst hm
    exact hR _ H' (h.new e (Q := setA H.size _ []) (T := [H.size]) (by rw [Int.toNat_natCast]; exact hs) (by simp))
theorem add_s (h : Sep H0 H (setA s room rs :: Qs)) (hR : ∀ H', Sep H0 H' (setA s room (addS room rs lo hi) :: Qs) → R (iv (addE room rs lo hi)) H') : EvF P N.span_Set_Add #[ptr s, iv lo, iv hi] H R := by
  obtain ⟨T, a, k⟩ := h.get
  exact Add_ev a fun H' T' e ht hs => hR H' (k (setA s room _) H' T' e hs ht)
theorem add_c {e : Int} {rs' : List Rng} (h : Sep H0 H (setA s room rs :: Qs)) (he : addE room rs lo hi = e) (hs : addS room rs lo hi = rs') (hR : ∀ H', Sep H0 H' (setA s room rs' :: Qs) → R (iv e) H') : EvF P N.span_Set_Add #[ptr s, iv lo, iv hi] H R := by
  subst he; subst hs; exact add_s h hR
theorem ranges_s (h : Sep H0 H (setA s room rs :: Qs)) (hR : ∀ v H', Sep H0 H' (lstA rngE v rs.reverse :: setA s room rs :: Qs) → R v H') : EvF P N.span_Set_Ranges #[ptr s] H R := by
  obtain ⟨T, a⟩ := h.set_h
  exact Ranges_ev a fun v S H' e hs hl => hR v H' (h.new e (Q := lstA rngE v rs.reverse) (T := S) hl hs)
theorem Sep.set_ok (h : Sep H0 H (setA s room rs :: Qs)) : (1 ≤ room ∧ room ≤ 256) ∧ Okr rs ∧ rs.length ≤ room := by
  obtain ⟨T, a⟩ := h.set_h
  exact ⟨a.hroom, a.ok, a.few⟩
end
end Go.Hc

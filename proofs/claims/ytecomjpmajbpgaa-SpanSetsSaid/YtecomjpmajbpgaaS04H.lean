/- Sets, among things that lie apart. -/
import Derived.Test.YtecomjpmajbpgaaS04G
set_option linter.unusedSimpArgs false
set_option linter.unusedVariables false
namespace Go.Hc
open Go

section
variable {H0 H : Heap} {s room : Nat} {rs : List Rng} {Qs : List Asr} {n lo hi : Int} {R : Value → Heap → Prop}
theorem Sep.set_h (h : Sep H0 H (setA s room rs :: Qs)) : ∃ T, SetH H s room rs T := by
  obtain ⟨T, a, _⟩ := h.get; exact ⟨T, a⟩
theorem new_s {room : Int} (h : Sep H0 H Qs) (hr : 1 ≤ room ∧ room ≤ 256) (hR : ∀ s H', Sep H0 H' (setA s room.toNat [] :: Qs) → R (.tuple #[ptr s, iv 0]) H') : EvF P N.span_New #[iv room] H R :=
  spanNew_ev (fun hb => absurd hb (by omega)) fun H' m hm e hs => by
    subst hm
    exact hR _ H' (h.new e (Q := setA H.size _ []) (T := [H.size]) (by rw [Int.toNat_natCast]; exact hs) (by simp))
theorem add_s (h : Sep H0 H (setA s room rs :: Qs)) (hR : ∀ H', Sep H0 H' (setA s room (addS room rs lo hi) :: Qs) → R (iv (addE room rs lo hi)) H') : EvF P N.span_Set_Add #[ptr s, iv lo, iv hi] H R := by
  obtain ⟨T, a, k⟩ := h.get
  exact Add_ev a fun H' T' e ht hs => hR H' (k (setA s room _) H' T' e hs ht)
theorem add_c {e : Int} {rs' : List Rng} (h : Sep H0 H (setA s room rs :: Qs)) (he : addE room rs lo hi = e) (hs : addS room rs lo hi = rs') (hR : ∀ H', Sep H0 H' (setA s room rs' :: Qs) → R (iv e) H') : EvF P N.span_Set_Add #[ptr s, iv lo, iv hi] H R := by
  subst he; subst hs; exact add_s h hR
theorem cut_s (h : Sep H0 H (setA s room rs :: Qs)) (hR : ∀ H', Sep H0 H' (setA s room (cutS rs n) :: Qs) → R (iv (cutE n)) H') : EvF P N.span_Set_Cut #[ptr s, iv n] H R := by
  obtain ⟨T, a, k⟩ := h.get
  exact Cut_ev a fun H' e hs => hR H' (k (setA s room _) H' T e hs fun x hx => .inl hx)
theorem cut_c {e : Int} {rs' : List Rng} (h : Sep H0 H (setA s room rs :: Qs)) (he : cutE n = e) (hs : cutS rs n = rs') (hR : ∀ H', Sep H0 H' (setA s room rs' :: Qs) → R (iv e) H') : EvF P N.span_Set_Cut #[ptr s, iv n] H R := by
  subst he; subst hs; exact cut_s h hR
theorem has_s (h : Sep H0 H (setA s room rs :: Qs)) (hR : ∀ H', Sep H0 H' (setA s room rs :: Qs) → R (.bool (hasR rs n)) H') : EvF P N.span_Set_Has #[ptr s, iv n] H R := by
  obtain ⟨T, a⟩ := h.set_h
  exact Has_ev a fun H' e => hR H' (h.ext e)
theorem next_s (h : Sep H0 H (setA s room rs :: Qs)) (hR : ∀ H', Sep H0 H' (setA s room rs :: Qs) → R (iv (nextR rs n)) H') : EvF P N.span_Set_Next #[ptr s, iv n] H R := by
  obtain ⟨T, a⟩ := h.set_h
  exact Next_ev a fun H' e => hR H' (h.ext e)
theorem count_s (h : Sep H0 H (setA s room rs :: Qs)) (hR : ∀ H', Sep H0 H' (setA s room rs :: Qs) → R (iv (cnt rs)) H') : EvF P N.span_Set_Count #[ptr s] H R := by
  obtain ⟨T, a⟩ := h.set_h
  exact Count_ev a fun H' e => hR H' (h.ext e)
theorem len_s' (h : Sep H0 H (setA s room rs :: Qs)) (hR : R (iv rs.length) H) : EvF P N.span_Set_Len #[ptr s] H R := by
  obtain ⟨T, a⟩ := h.set_h
  exact SLen_ev a hR
theorem max_s (h : Sep H0 H (setA s room rs :: Qs)) (hR : R (iv (maxR rs)) H) : EvF P N.span_Set_Max #[ptr s] H R := by
  obtain ⟨T, a⟩ := h.set_h
  exact Max_ev a hR
theorem min_s (h : Sep H0 H (setA s room rs :: Qs)) (hR : R (iv (minR rs)) H) : EvF P N.span_Set_Min #[ptr s] H R := by
  obtain ⟨T, a⟩ := h.set_h
  exact Min_ev a hR
theorem copy_s (h : Sep H0 H (setA s room rs :: Qs)) (hR : ∀ s' H', Sep H0 H' (setA s' room rs :: setA s room rs :: Qs) → R (ptr s') H') : EvF P N.span_Set_Copy #[ptr s] H R := by
  obtain ⟨T, a⟩ := h.set_h
  exact SCopy_ev a fun s' T' H' e ht hs => hR s' H' (h.new e (Q := setA s' room rs) (T := T') hs ht)
theorem ranges_s (h : Sep H0 H (setA s room rs :: Qs)) (hR : ∀ v H', Sep H0 H' (lstA rngE v rs.reverse :: setA s room rs :: Qs) → R v H') : EvF P N.span_Set_Ranges #[ptr s] H R := by
  obtain ⟨T, a⟩ := h.set_h
  exact Ranges_ev a fun v S H' e hs hl => hR v H' (h.new e (Q := lstA rngE v rs.reverse) (T := S) hl hs)
theorem same_s {s2 room2 : Nat} {rs2 : List Rng} (h : Sep H0 H (setA s room rs :: setA s2 room2 rs2 :: Qs)) (hR : R (.bool (decide (room = room2 ∧ rs = rs2))) H) : EvF P N.span_Set_Same #[ptr s, ptr s2] H R := by
  obtain ⟨T, a⟩ := h.set_h
  obtain ⟨T2, a2⟩ := h.b1.set_h
  exact Same_ev a a2 hR
theorem Sep.set_ok (h : Sep H0 H (setA s room rs :: Qs)) : (1 ≤ room ∧ room ≤ 256) ∧ Okr rs ∧ rs.length ≤ room := by
  obtain ⟨T, a⟩ := h.set_h
  exact ⟨a.hroom, a.ok, a.few⟩
end
end Go.Hc

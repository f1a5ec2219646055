/- Lists of ranges: the plain laws. -/
import Derived.Test.YtbchcnmghcmaoaaHcS
set_option linter.unusedSimpArgs false
set_option linter.unusedVariables false
namespace Go.Hc
open Go

abbrev Rng := Int × Int
structure Okr (rs : List Rng) : Prop where
  each : ∀ r ∈ rs, 0 ≤ r.1 ∧ r.1 ≤ r.2 ∧ r.2 ≤ 9007199254740991
  up : rs.Pairwise fun a b => a.2 + 1 < b.1
def fi (p : Rng → Bool) (rs : List Rng) : Nat := (rs.takeWhile p).length
def lowI (n : Int) (rs : List Rng) : Nat := fi (fun r => decide (r.2 < n)) rs
def topI (n : Int) (rs : List Rng) : Nat := fi (fun r => decide (r.1 ≤ n)) rs
def addX (rs : List Rng) (lo hi : Int) : Rng := if lowI (lo - 1) rs < topI (hi + 1) rs then (min lo (rs.getD (lowI (lo - 1) rs) (0, 0)).1, max hi (rs.getD (topI (hi + 1) rs - 1) (0, 0)).2) else (lo, hi)
def addL (rs : List Rng) (lo hi : Int) : List Rng := rs.take (lowI (lo - 1) rs) ++ addX rs lo hi :: rs.drop (topI (hi + 1) rs)
def Mem (rs : List Rng) (n : Int) : Prop := ∃ r ∈ rs, r.1 ≤ n ∧ n ≤ r.2
def cutH (b : Int) : List Rng → List Rng
  | [] => []
  | r :: l => (max r.1 b, r.2) :: l
def cutL (rs : List Rng) (b : Int) : List Rng := cutH b (rs.drop (lowI b rs))
def cnt : List Rng → Int
  | [] => 0
  | r :: l => (r.2 - r.1 + 1) + cnt l

theorem fi_le (p : Rng → Bool) (rs : List Rng) : fi p rs ≤ rs.length := by
  induction rs with
  | nil => simp [fi]
  | cons r l ih =>
    simp only [fi, List.takeWhile_cons] at ih ⊢
    split <;> simp <;> omega
theorem fi_lt {p : Rng → Bool} : ∀ {rs : List Rng} {i : Nat} (h : i < rs.length), i < fi p rs → p rs[i] = true
  | r :: l, i, h, hi => by
    simp only [fi, List.takeWhile_cons] at hi
    split at hi
    · rename_i hr
      cases i with
      | zero => exact hr
      | succ i => exact fi_lt (rs := l) (by simpa using h) (by simpa [fi] using hi)
    · simp at hi
theorem fi_at {p : Rng → Bool} : ∀ {rs : List Rng} (h : fi p rs < rs.length), p rs[fi p rs] = false
  | r :: l, h => by
    cases hr : p r with
    | false => simp [fi, List.takeWhile_cons, hr]
    | true =>
      have e : fi p (r :: l) = fi p l + 1 := by simp [fi, List.takeWhile_cons, hr]
      have h' : fi p l < l.length := by rw [e] at h; simpa using h
      have := fi_at h'
      simp only [e, List.getElem_cons_succ]; exact this
theorem fi_eq {p : Rng → Bool} {rs : List Rng} {k : Nat} (hk : k ≤ rs.length) (h1 : ∀ i (h : i < rs.length), i < k → p rs[i] = true) (h2 : ∀ h : k < rs.length, p rs[k] = false) : fi p rs = k := by
  rcases Nat.lt_trichotomy (fi p rs) k with h | h | h
  · have ha := fi_at (p := p) (rs := rs) (by omega)
    rw [h1 _ (by omega) h] at ha; cases ha
  · exact h
  · have hb := fi_le p rs
    have ha := fi_lt (p := p) (rs := rs) (i := k) (by omega) h
    rw [h2 (by omega)] at ha; cases ha

section
variable {rs : List Rng}
theorem Okr.lt (h : Okr rs) {i j : Nat} (hij : i < j) (hj : j < rs.length) : (rs[i]'(by omega)).2 + 1 < rs[j].1 := (List.pairwise_iff_getElem.1 h.up) i j _ hj hij
theorem Okr.at (h : Okr rs) {i : Nat} (hi : i < rs.length) : 0 ≤ rs[i].1 ∧ rs[i].1 ≤ rs[i].2 ∧ rs[i].2 ≤ 9007199254740991 := h.each _ (List.getElem_mem hi)
theorem Okr.le2 (h : Okr rs) {i j : Nat} (hij : i ≤ j) (hj : j < rs.length) : (rs[i]'(by omega)).2 ≤ rs[j].2 ∧ (rs[i]'(by omega)).1 ≤ rs[j].1 := by
  rcases Nat.lt_or_ge i j with h1 | h1
  · have := h.lt h1 hj; have := h.at hj; have := h.at (show i < rs.length by omega); omega
  · have : i = j := by omega
    subst this; omega
theorem lowI_lt {n : Int} {i : Nat} (hi : i < rs.length) (h : i < lowI n rs) : rs[i].2 < n := by simpa using fi_lt hi h
theorem lowI_ge (h : Okr rs) {n : Int} {i : Nat} (hi : i < rs.length) (hl : lowI n rs ≤ i) : n ≤ rs[i].2 := by
  have h1 : lowI n rs < rs.length := by omega
  have h2 := fi_at (p := fun r => decide (r.2 < n)) h1
  have h3 : n ≤ (rs[lowI n rs]'h1).2 := by have h4 := of_decide_eq_false h2; exact Int.not_lt.1 h4
  have := (h.le2 hl hi).1
  omega
theorem topI_lt {n : Int} {i : Nat} (hi : i < rs.length) (h : i < topI n rs) : rs[i].1 ≤ n := by simpa using fi_lt hi h
theorem topI_ge (h : Okr rs) {n : Int} {i : Nat} (hi : i < rs.length) (hl : topI n rs ≤ i) : n < rs[i].1 := by
  have h1 : topI n rs < rs.length := by omega
  have h2 := fi_at (p := fun r => decide (r.1 ≤ n)) h1
  have h3 : n < (rs[topI n rs]'h1).1 := by have h4 := of_decide_eq_false h2; exact Int.not_le.1 h4
  have := (h.le2 hl hi).2
  omega
theorem low_top (h : Okr rs) {lo hi : Int} (hle : lo ≤ hi) : lowI (lo - 1) rs ≤ topI (hi + 1) rs := by
  rcases Nat.lt_or_ge (topI (hi + 1) rs) (lowI (lo - 1) rs) with h1 | h1
  · have h0 : lowI (lo - 1) rs ≤ rs.length := fi_le _ _
    have hi' : topI (hi + 1) rs < rs.length := by omega
    have h2 := lowI_lt hi' h1
    have h3 := topI_ge h hi' (Nat.le_refl _)
    have h4 := h.at hi'
    omega
  · exact h1
theorem mem_ix {n : Int} : Mem rs n ↔ ∃ i, ∃ h : i < rs.length, rs[i].1 ≤ n ∧ n ≤ rs[i].2 := by
  constructor
  · rintro ⟨r, hr, h1, h2⟩
    obtain ⟨i, hi, rfl⟩ := List.getElem_of_mem hr
    exact ⟨i, hi, h1, h2⟩
  · rintro ⟨i, hi, h1, h2⟩
    exact ⟨_, List.getElem_mem hi, h1, h2⟩
theorem addL_len (h : Okr rs) {lo hi : Int} (hle : lo ≤ hi) : (addL rs lo hi).length = rs.length - (topI (hi + 1) rs - lowI (lo - 1) rs) + 1 := by
  have h1 := low_top h hle
  have h2 : topI (hi + 1) rs ≤ rs.length := fi_le _ _
  simp [addL]; omega
theorem getD_at {i : Nat} (h : i < rs.length) : rs.getD i (0, 0) = rs[i] := by simp [List.getD, h]
theorem addX_bounds (h : Okr rs) {lo hi : Int} (h0 : 0 ≤ lo) (hle : lo ≤ hi) (hm : hi ≤ 9007199254740991) :
    0 ≤ (addX rs lo hi).1 ∧ (addX rs lo hi).1 ≤ lo ∧ hi ≤ (addX rs lo hi).2 ∧ (addX rs lo hi).2 ≤ 9007199254740991 := by
  have h2 : topI (hi + 1) rs ≤ rs.length := fi_le _ _
  unfold addX
  split
  · rename_i hlt
    rw [getD_at (by omega), getD_at (by omega)]
    have h3 := h.at (show lowI (lo - 1) rs < rs.length by omega)
    have h4 := h.at (show topI (hi + 1) rs - 1 < rs.length by omega)
    simp only
    omega
  · simp only; omega
theorem addL_mem (h : Okr rs) {lo hi n : Int} (hle : lo ≤ hi) : Mem (addL rs lo hi) n ↔ Mem rs n ∨ (lo ≤ n ∧ n ≤ hi) := by
  have h1 := low_top h hle
  have h2 : topI (hi + 1) rs ≤ rs.length := fi_le _ _
  constructor
  · rintro ⟨r, hr, hn1, hn2⟩
    simp only [addL, List.mem_append, List.mem_cons] at hr
    rcases hr with hr | rfl | hr
    · exact .inl ⟨r, List.mem_of_mem_take hr, hn1, hn2⟩
    · unfold addX at hn1 hn2
      split at hn1
      · rename_i hlt
        rw [if_pos hlt] at hn2
        have f1 : lowI (lo - 1) rs < rs.length := by omega
        have f2 : topI (hi + 1) rs - 1 < rs.length := by omega
        rw [getD_at f1] at hn1
        rw [getD_at f2] at hn2
        have g1 := lowI_ge h f1 (Nat.le_refl _)
        have g2 := topI_lt (n := hi + 1) f2 (by omega)
        simp only at hn1 hn2
        by_cases c1 : n < lo
        · exact .inl (mem_ix.2 ⟨_, f1, by omega, by omega⟩)
        · by_cases c2 : hi < n
          · exact .inl (mem_ix.2 ⟨_, f2, by omega, by omega⟩)
          · exact .inr ⟨by omega, by omega⟩
      · rename_i hlt
        rw [if_neg hlt] at hn2
        exact .inr ⟨hn1, hn2⟩
    · exact .inl ⟨r, List.mem_of_mem_drop hr, hn1, hn2⟩
  · intro hh
    have hx : (addX rs lo hi).1 ≤ n → n ≤ (addX rs lo hi).2 → Mem (addL rs lo hi) n := fun a b => ⟨_, by simp [addL], a, b⟩
    rcases hh with hh | hh
    · obtain ⟨i, hi', hn1, hn2⟩ := mem_ix.1 hh
      by_cases c1 : i < lowI (lo - 1) rs
      · refine ⟨rs[i], ?_, hn1, hn2⟩
        simp only [addL, List.mem_append]
        exact .inl (List.mem_take_iff_getElem.2 ⟨i, by omega, rfl⟩)
      · by_cases c2 : topI (hi + 1) rs ≤ i
        · refine ⟨rs[i], ?_, hn1, hn2⟩
          simp only [addL, List.mem_append, List.mem_cons]
          refine .inr (.inr (List.mem_drop_iff_getElem.2 ⟨i - topI (hi + 1) rs, by omega, ?_⟩))
          congr 1; omega
        · have hlt : lowI (lo - 1) rs < topI (hi + 1) rs := by omega
          have g1 := (h.le2 (show lowI (lo - 1) rs ≤ i by omega) hi').2
          have g2 := (h.le2 (show i ≤ topI (hi + 1) rs - 1 by omega) (by omega)).1
          refine hx ?_ ?_
          · unfold addX; rw [if_pos hlt, getD_at (by omega)]; simp only; omega
          · unfold addX; rw [if_pos hlt, getD_at (rs := rs) (i := topI (hi + 1) rs - 1) (by omega)]; simp only; omega
    · refine hx ?_ ?_
      · unfold addX; split <;> simp only <;> omega
      · unfold addX; split <;> simp only <;> omega
theorem addL_ok (h : Okr rs) {lo hi : Int} (h0 : 0 ≤ lo) (hle : lo ≤ hi) (hm : hi ≤ 9007199254740991) : Okr (addL rs lo hi) := by
  have h1 := low_top h hle
  have h2 : topI (hi + 1) rs ≤ rs.length := fi_le _ _
  have hb := addX_bounds h h0 hle hm
  constructor
  · intro r hr
    simp only [addL, List.mem_append, List.mem_cons] at hr
    rcases hr with hr | rfl | hr
    · exact h.each r (List.mem_of_mem_take hr)
    · omega
    · exact h.each r (List.mem_of_mem_drop hr)
  · unfold addL
    rw [List.pairwise_append, List.pairwise_cons]
    have key1 : ∀ a ∈ rs.take (lowI (lo - 1) rs), a.2 + 1 < (addX rs lo hi).1 := by
      intro a ha
      obtain ⟨i, hi', rfl⟩ := List.mem_take_iff_getElem.1 ha
      have g1 := lowI_lt (show i < rs.length by omega) (show i < lowI (lo - 1) rs by omega)
      unfold addX
      split
      · rename_i hlt
        rw [getD_at (by omega)]
        have g2 := h.lt (show i < lowI (lo - 1) rs by omega) (by omega)
        simp only; omega
      · simp only; omega
    have key2 : ∀ b ∈ rs.drop (topI (hi + 1) rs), (addX rs lo hi).2 + 1 < b.1 := by
      intro b hb'
      obtain ⟨i, hi', rfl⟩ := List.mem_drop_iff_getElem.1 hb'
      have g1 := topI_ge h (n := hi + 1) (i := topI (hi + 1) rs + i) (by omega) (by omega)
      unfold addX
      split
      · rename_i hlt
        rw [getD_at (i := topI (hi + 1) rs - 1) (by omega)]
        have g2 := h.lt (show topI (hi + 1) rs - 1 < topI (hi + 1) rs + i by omega) (by omega)
        simp only; omega
      · simp only; omega
    refine ⟨h.up.sublist (List.take_sublist _ _), ⟨key2, h.up.sublist (List.drop_sublist _ _)⟩, fun a ha b hb' => ?_⟩
    rcases List.mem_cons.1 hb' with rfl | hb'
    · exact key1 a ha
    · have := key1 a ha; have := key2 b hb'; omega

theorem Okr.tail {r : Rng} {l : List Rng} (h : Okr (r :: l)) : Okr l := ⟨fun x hx => h.each x (by simp [hx]), (List.pairwise_cons.1 h.up).2⟩
theorem Okr.nil : Okr [] := ⟨by simp, by simp⟩
theorem Okr.first {r : Rng} {l : List Rng} (h : Okr (r :: l)) {n : Int} (hn : Mem (r :: l) n) : r.1 ≤ n := by
  obtain ⟨x, hx, h1, h2⟩ := hn
  rcases List.mem_cons.1 hx with rfl | hx
  · exact h1
  · have := (List.pairwise_cons.1 h.up).1 x hx
    have := h.each r (by simp); omega
theorem Okr.gap {r : Rng} {l : List Rng} (h : Okr (r :: l)) {n : Int} (hn : r.2 < n) : Mem (r :: l) n ↔ Mem l n := by
  constructor
  · rintro ⟨x, hx, h1, h2⟩
    rcases List.mem_cons.1 hx with rfl | hx
    · omega
    · exact ⟨x, hx, h1, h2⟩
  · rintro ⟨x, hx, h1, h2⟩; exact ⟨x, by simp [hx], h1, h2⟩
theorem Okr.after {r : Rng} {l : List Rng} (h : Okr (r :: l)) {n : Int} (hn : Mem l n) : r.2 + 1 < n := by
  obtain ⟨x, hx, h1, h2⟩ := hn
  have := (List.pairwise_cons.1 h.up).1 x hx; omega
/-- Sets of the same numbers are the same ranges. -/
theorem Okr.ext : ∀ {a b : List Rng}, Okr a → Okr b → (∀ n, Mem a n ↔ Mem b n) → a = b
  | [], [], _, _, _ => rfl
  | [], r :: l, _, hb, h => by
    have := hb.each r (by simp)
    obtain ⟨x, hx, _⟩ := (h r.1).2 ⟨r, by simp, by omega, by omega⟩
    simp at hx
  | r :: l, [], ha, _, h => by
    have := ha.each r (by simp)
    obtain ⟨x, hx, _⟩ := (h r.1).1 ⟨r, by simp, by omega, by omega⟩
    simp at hx
  | r :: l, s :: m, ha, hb, h => by
    have e1 := ha.each r (by simp)
    have e2 := hb.each s (by simp)
    have m1 : Mem (r :: l) r.1 := ⟨r, by simp, by omega, by omega⟩
    have m2 : Mem (s :: m) s.1 := ⟨s, by simp, by omega, by omega⟩
    have f1 := hb.first ((h _).1 m1)
    have f2 := ha.first ((h _).2 m2)
    have m3 : Mem (r :: l) r.2 := ⟨r, by simp, by omega, by omega⟩
    have m4 : Mem (s :: m) s.2 := ⟨s, by simp, by omega, by omega⟩
    have hhi : r.2 = s.2 := by
      rcases Int.lt_trichotomy r.2 s.2 with hlt | heq | hgt
      · have : Mem (s :: m) (r.2 + 1) := ⟨s, by simp, by omega, by omega⟩
        have h2 := (ha.gap (by omega)).1 ((h _).2 this)
        have := ha.after h2; omega
      · exact heq
      · have : Mem (r :: l) (s.2 + 1) := ⟨r, by simp, by omega, by omega⟩
        have h2 := (hb.gap (by omega)).1 ((h _).1 this)
        have := hb.after h2; omega
    have hr : r = s := Prod.ext (by omega) hhi
    subst hr
    congr 1
    refine Okr.ext ha.tail hb.tail fun n => ?_
    constructor
    · intro hn
      have g := ha.after hn
      exact (hb.gap (by omega)).1 ((h n).1 ((ha.gap (by omega)).2 hn))
    · intro hn
      have g := hb.after hn
      exact (ha.gap (by omega)).1 ((h n).2 ((hb.gap (by omega)).2 hn))

theorem cutL_ok (h : Okr rs) {b : Int} (hb : 0 ≤ b) : Okr (cutL rs b) := by
  have h1 : Okr (rs.drop (lowI b rs)) := ⟨fun r hr => h.each r (List.mem_of_mem_drop hr), h.up.sublist (List.drop_sublist _ _)⟩
  unfold cutL
  cases hd : rs.drop (lowI b rs) with
  | nil => exact Okr.nil
  | cons r l =>
    rw [hd] at h1
    have hlen : lowI b rs < rs.length := by
      rcases Nat.lt_or_ge (lowI b rs) rs.length with hh | hh
      · exact hh
      · rw [List.drop_of_length_le hh] at hd; cases hd
    have hr : rs[lowI b rs] = r := by rw [List.drop_eq_getElem_cons hlen] at hd; injection hd
    have hge := lowI_ge h hlen (Nat.le_refl _)
    rw [hr] at hge
    have e := h1.each r (by simp)
    refine ⟨fun x hx => ?_, List.pairwise_cons.2 ⟨fun x hx => ?_, h1.tail.up⟩⟩
    · rcases List.mem_cons.1 hx with rfl | hx
      · simp only; omega
      · exact h1.each x (by simp [hx])
    · exact (List.pairwise_cons.1 h1.up).1 x hx
theorem cutL_mem (h : Okr rs) {b n : Int} : Mem (cutL rs b) n ↔ Mem rs n ∧ b ≤ n := by
  unfold cutL
  have hlow : ∀ x ∈ rs.take (lowI b rs), x.2 < b := fun x hx => by
    obtain ⟨i, hi, rfl⟩ := List.mem_take_iff_getElem.1 hx
    exact lowI_lt (by omega) (by omega)
  have hmem : ∀ x, x ∈ rs ↔ x ∈ rs.take (lowI b rs) ∨ x ∈ rs.drop (lowI b rs) := fun x => by
    have := List.take_append_drop (lowI b rs) rs
    constructor
    · intro hx; rw [← this] at hx; exact List.mem_append.1 hx
    · intro hx; rw [← this]; exact List.mem_append.2 hx
  have hge : ∀ x ∈ rs.drop (lowI b rs), b ≤ x.2 := fun x hx => by
    obtain ⟨i, hi, rfl⟩ := List.mem_drop_iff_getElem.1 hx
    exact lowI_ge h (by omega) (by omega)
  have hok : Okr (rs.drop (lowI b rs)) := ⟨fun r hr => h.each r (List.mem_of_mem_drop hr), h.up.sublist (List.drop_sublist _ _)⟩
  have step : Mem rs n ∧ b ≤ n ↔ Mem (rs.drop (lowI b rs)) n ∧ b ≤ n := by
    constructor
    · rintro ⟨⟨x, hx, h1, h2⟩, h3⟩
      rcases (hmem x).1 hx with hx | hx
      · have := hlow x hx; omega
      · exact ⟨⟨x, hx, h1, h2⟩, h3⟩
    · rintro ⟨⟨x, hx, h1, h2⟩, h3⟩
      exact ⟨⟨x, (hmem x).2 (.inr hx), h1, h2⟩, h3⟩
  rw [step]
  cases hd : rs.drop (lowI b rs) with
  | nil => simp [cutH, Mem]
  | cons r l =>
    rw [hd] at hge hok
    have g := hge r (by simp)
    constructor
    · rintro ⟨x, hx, h1, h2⟩
      rcases List.mem_cons.1 hx with rfl | hx
      · simp only at h1 h2; exact ⟨⟨r, by simp, by omega, h2⟩, by omega⟩
      · have := (List.pairwise_cons.1 hok.up).1 x hx
        exact ⟨⟨x, by simp [hx], h1, h2⟩, by omega⟩
    · rintro ⟨⟨x, hx, h1, h2⟩, h3⟩
      rcases List.mem_cons.1 hx with rfl | hx
      · exact ⟨(max x.1 b, x.2), by simp [cutH], by simp only; omega, h2⟩
      · exact ⟨x, by simp [cutH, hx], h1, h2⟩
theorem cnt_bound : ∀ {rs : List Rng} {a : Int}, Okr rs → (∀ r ∈ rs, a ≤ r.1) → a ≤ 9007199254740992 → 0 ≤ cnt rs ∧ cnt rs ≤ 9007199254740992 - a
  | [], a, _, _, ha => by simp [cnt]; omega
  | r :: l, a, h, ha, _ => by
    have h1 := ha r (by simp)
    have h2 := h.each r (by simp)
    have := cnt_bound (rs := l) (a := r.2 + 1) h.tail (fun x hx => by have := (List.pairwise_cons.1 h.up).1 x hx; omega) (by omega)
    simp only [cnt]; omega
theorem cnt_app : ∀ (a b : List Rng), cnt (a ++ b) = cnt a + cnt b
  | [], b => by simp [cnt]
  | r :: a, b => by simp only [List.cons_append, cnt, cnt_app a b]; omega
theorem cnt_rev (a : List Rng) : cnt a.reverse = cnt a := by
  induction a with
  | nil => rfl
  | cons r a ih => rw [List.reverse_cons, cnt_app, ih]; simp only [cnt]; omega
end
end Go.Hc

/- Sets: Cut, and what reads. -/
import Derived.Test.YtbchcnmghcmaoaaS04E
set_option linter.unusedSimpArgs false
set_option linter.unusedVariables false
namespace Go.Hc
open Go

def hasR (rs : List Rng) (n : Int) : Bool := rs.any fun r => decide (r.1 ≤ n ∧ n ≤ r.2)
def atR (rs : List Rng) (n : Int) : Option Rng := rs.find? fun r => decide (r.1 ≤ n ∧ n ≤ r.2)
def okN (n : Int) : Prop := 0 ≤ n ∧ n ≤ 9007199254740991
instance (n : Int) : Decidable (okN n) := inferInstanceAs (Decidable (0 ≤ n ∧ n ≤ 9007199254740991))
def nextR (rs : List Rng) (n : Int) : Int := if okN n then (let m := match atR rs n with | some x => x.2 + 1 | none => n; if okN m then m else -1) else -1
def maxR (rs : List Rng) : Int := match rs.getLast? with | some r => r.2 | none => -1
def minR (rs : List Rng) : Int := match rs.head? with | some r => r.1 | none => -1
def cutE (b : Int) : Int := if okN b then 0 else 2
def cutS (rs : List Rng) (b : Int) : List Rng := if okN b then cutL rs b else rs
theorem hasR_iff {rs : List Rng} {n : Int} : hasR rs n = true ↔ Mem rs n := by
  simp [hasR, Mem, List.any_eq_true]
theorem hasR_at {rs : List Rng} {n : Int} : hasR rs n = (atR rs n).isSome := by
  unfold hasR atR
  rw [Bool.eq_iff_iff, List.find?_isSome, List.any_eq_true]
theorem atR_low {rs : List Rng} (h : Okr rs) {n : Int} : atR rs n = if hl : lowI n rs < rs.length then (if (rs[lowI n rs]).1 ≤ n then some rs[lowI n rs] else none) else none := by
  have before : ∀ i (hi : i < rs.length), i < lowI n rs → ¬ (rs[i].1 ≤ n ∧ n ≤ rs[i].2) := fun i hi h1 h2 => by have := lowI_lt hi h1; omega
  have none_of : (∀ i (hi : i < rs.length), ¬ (rs[i].1 ≤ n ∧ n ≤ rs[i].2)) → atR rs n = none := fun hh => by
    unfold atR
    rw [List.find?_eq_none]
    intro x hx
    obtain ⟨i, hi, rfl⟩ := List.getElem_of_mem hx
    simpa using hh i hi
  split
  · rename_i hl
    have hge := lowI_ge h hl (Nat.le_refl _)
    split
    · rename_i hle
      have hs : (atR rs n).isSome := by
        unfold atR; rw [List.find?_isSome]
        exact ⟨_, List.getElem_mem hl, by simp; exact ⟨hle, hge⟩⟩
      obtain ⟨x, hx⟩ := Option.isSome_iff_exists.1 hs
      rw [hx]
      have hm := List.mem_of_find?_eq_some hx
      have hp := List.find?_some hx
      simp only [decide_eq_true_eq] at hp
      obtain ⟨i, hi, rfl⟩ := List.getElem_of_mem hm
      congr 1
      rcases Nat.lt_trichotomy i (lowI n rs) with h1 | h1 | h1
      · exact absurd hp (before i hi h1)
      · subst h1; rfl
      · have := h.lt h1 hi; omega
    · rename_i hgt
      refine none_of fun i hi hh => ?_
      rcases Nat.lt_or_ge i (lowI n rs) with h1 | h1
      · exact before i hi h1 hh
      · have := (h.le2 h1 hi).2; omega
  · rename_i hl
    exact none_of fun i hi hh => before i hi (by omega) hh

/-- one cell of a row is written -/
theorem blk_cell {sz : Nat} {H : Heap} {b cap i o : Nat} {f : Nat → Array Value} {l : List Value} (hb : Blk sz H b cap f) (hi : i < cap) (ho : o + l.length ≤ sz) (hc : l.all isCell = true) :
    ∃ H', wrA H b (i * sz + o) l = some H' ∧ Ext [b] H H' ∧ H'.size = H.size ∧ Blk sz H' b cap (fun k => if k = i then splice (f i) o l else f k) := by
  obtain ⟨c, hc1, hr⟩ := hb
  have h1 := row_lt (sz := sz) hi
  have h2 := hr.size
  rw [wrA_b, hc1, Option.bind_some, if_pos ⟨by omega, hc⟩]
  exact ⟨_, rfl, (Ext.refl _ _).setB _ _ (Or.inl (by simp)), size_setB _ _ _, _, own_setB_same hc1, hr.setC hi ho⟩

def optR (o : Option Rng) : Value := .tuple #[.agg (rngC (o.getD (0, 0))), .bool o.isSome]
end Go.Hc

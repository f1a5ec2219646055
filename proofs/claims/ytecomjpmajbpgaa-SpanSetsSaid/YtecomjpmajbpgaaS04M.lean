/- Sets, told number by number: the plain laws. -/
import Derived.Test.YtecomjpmajbpgaaS04F
set_option linter.unusedSimpArgs false
set_option linter.unusedVariables false
namespace Go.Hc
open Go

def ind (b : Bool) : Int := if b then 1 else 0
def sumB (f : Nat → Bool) : Nat → Int
  | 0 => 0
  | n + 1 => sumB f n + ind (f n)
theorem sumB_add {f g h : Nat → Bool} : ∀ {N : Nat}, (∀ n, n < N → ind (f n) = ind (g n) + ind (h n)) → sumB f N = sumB g N + sumB h N
  | 0, _ => rfl
  | N + 1, hh => by
    have := sumB_add (N := N) fun n hn => hh n (by omega)
    have := hh N (by omega)
    simp only [sumB]; omega
theorem sumB_zero {f : Nat → Bool} : ∀ {N : Nat}, (∀ n, n < N → f n = false) → sumB f N = 0
  | 0, _ => rfl
  | N + 1, hh => by
    have := sumB_zero (N := N) fun n hn => hh n (by omega)
    simp only [sumB, hh N (by omega), ind]; simpa using this
theorem sumB_int (a b : Int) (ha : 0 ≤ a) (hab : a ≤ b) : ∀ N : Nat, sumB (fun n => decide (a ≤ n ∧ n ≤ b)) N = if (N : Int) ≤ a then 0 else if (N : Int) ≤ b + 1 then N - a else b + 1 - a
  | 0 => by rw [if_pos (by omega)]; rfl
  | N + 1 => by
    have ih := sumB_int a b ha hab N
    simp only [sumB, ih, ind, decide_eq_true_eq]
    push_cast
    by_cases h1 : (N : Int) + 1 ≤ a
    · rw [if_pos (by omega), if_neg (by omega), if_pos h1]; omega
    · rw [if_neg h1]
      by_cases h2 : (N : Int) + 1 ≤ b + 1
      · rw [if_pos h2, if_pos (show a ≤ (N : Int) ∧ (N : Int) ≤ b by omega)]
        by_cases h3 : (N : Int) ≤ a
        · rw [if_pos h3]; omega
        · rw [if_neg h3, if_pos (by omega)]; omega
      · rw [if_neg h2, if_neg (show ¬ (a ≤ (N : Int) ∧ (N : Int) ≤ b) by omega), if_neg (by omega)]
        by_cases h3 : (N : Int) ≤ b + 1
        · rw [if_pos h3]; omega
        · rw [if_neg h3]; omega
theorem cnt_sum {N : Nat} : ∀ {rs : List Rng} (_ : Okr rs) (_ : ∀ r ∈ rs, r.2 < N) (f : Nat → Bool), (∀ n : Nat, n < N → (f n = true ↔ Mem rs n)) → sumB f N = cnt rs
  | [], _, _, f, hf => by
    rw [sumB_zero fun n hn => ?_]; rfl
    cases h : f n with
    | false => rfl
    | true => obtain ⟨x, hx, _⟩ := (hf n hn).1 h; simp at hx
  | r :: l, h, hl, f, hf => by
    have hr := h.each r (by simp)
    have hlr := hl r (by simp)
    have ih := cnt_sum (N := N) h.tail (fun x hx => hl x (by simp [hx])) (fun n => hasR l n) (fun n _ => hasR_iff)
    have hi := sumB_int r.1 r.2 hr.1 hr.2.1 N
    rw [if_neg (by omega)] at hi
    rw [sumB_add (g := fun n => decide (r.1 ≤ n ∧ n ≤ r.2)) (h := fun n => hasR l n) fun n hn => ?_, ih, hi]
    · simp only [cnt]
      split <;> omega
    · have e := hf n hn
      by_cases h1 : r.1 ≤ (n : Int) ∧ (n : Int) ≤ r.2
      · have h2 : f n = true := e.2 ⟨r, by simp, h1.1, h1.2⟩
        have h3 : hasR l n = false := by
          cases hh : hasR l n with
          | false => rfl
          | true => have := h.after (hasR_iff.1 hh); omega
        rw [h2, h3, decide_eq_true h1]; rfl
      · rw [decide_eq_false h1]
        have h4 : (f n = true ↔ Mem l n) := by
          rw [e]
          constructor
          · rintro ⟨x, hx, h2, h3⟩
            rcases List.mem_cons.1 hx with rfl | hx
            · exact absurd ⟨h2, h3⟩ h1
            · exact ⟨x, hx, h2, h3⟩
          · rintro ⟨x, hx, h2, h3⟩; exact ⟨x, by simp [hx], h2, h3⟩
        have h5 : f n = hasR l n := by rw [Bool.eq_iff_iff, h4, hasR_iff]
        rw [h5]; simp [ind]
/-- the next that there is not -/
theorem next_is {rs : List Rng} (h : Okr rs) (hl : ∀ r ∈ rs, r.2 ≤ 100) {n q : Int} (h0 : 0 ≤ n) (hnq : n ≤ q) (hq : q ≤ 101) (hin : ∀ m, n ≤ m → m < q → Mem rs m) (hout : q = 101 ∨ ¬ Mem rs q) : nextR rs n = q := by
  have hokn : okN n := ⟨h0, by omega⟩
  have hokq : okN q := ⟨by omega, by omega⟩
  have notq : ¬ Mem rs q := by
    rcases hout with rfl | h1
    · rintro ⟨x, hx, h2, h3⟩; have := hl x hx; omega
    · exact h1
  unfold nextR
  rw [if_pos hokn]
  cases hat : atR rs n with
  | none =>
    have hn : ¬ Mem rs n := fun hm => by
      have h2 := hasR_iff.2 hm
      rw [hasR_at, hat] at h2; cases h2
    have : n = q := by
      rcases (by omega : n < q ∨ q ≤ n) with h3 | h3
      · exact absurd (hin n (by omega) h3) hn
      · omega
    subst this
    simp only; rw [if_pos hokn]
  | some x =>
    have hx := List.mem_of_find?_eq_some hat
    have hp := List.find?_some hat
    simp only [decide_eq_true_eq] at hp
    have hxx := hl x hx
    have e : x.2 + 1 = q := by
      rcases Int.lt_trichotomy (x.2 + 1) q with h3 | h3 | h3
      · obtain ⟨y, hy, h4, h5⟩ := hin (x.2 + 1) (by omega) h3
        obtain ⟨i, hi, rfl⟩ := List.getElem_of_mem hx
        obtain ⟨j, hj, rfl⟩ := List.getElem_of_mem hy
        rcases Nat.lt_trichotomy i j with h6 | h6 | h6
        · have := h.lt h6 hj; omega
        · subst h6; omega
        · have := h.lt h6 hi; have := h.at hi; omega
      · exact h3
      · exact absurd ⟨x, hx, by omega, by omega⟩ notq
    simp only; rw [e, if_pos hokq]
end Go.Hc

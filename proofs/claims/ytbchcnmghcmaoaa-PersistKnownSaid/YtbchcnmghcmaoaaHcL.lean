/- The heap calculus, part L: blocks as rows of cells; slices as lists. -/
import Derived.Test.YtbchcnmghcmaoaaHcK
set_option linter.unusedSimpArgs false
set_option linter.unusedVariables false
namespace Go.Hc
open Go

theorem size_splice (c : Array Value) (o : Nat) (l : List Value) : (splice c o l).size = c.size := by
  induction l generalizing c o with
  | nil => rfl
  | cons v l ih => simp [splice, ih]
theorem getElem?_splice (l : List Value) : ∀ (c : Array Value) (o : Nat), o + l.length ≤ c.size → ∀ i, (splice c o l)[i]? = if o ≤ i ∧ i < o + l.length then l[i - o]? else c[i]? := by
  induction l with
  | nil => intro c o _ i; rw [splice, if_neg (by simp only [List.length_nil]; omega)]
  | cons v l ih =>
    intro c o h i
    simp only [List.length_cons] at h
    rw [splice, ih _ _ (by simp; omega)]
    simp only [Array.getElem?_setIfInBounds]
    by_cases h1 : i = o
    · subst h1
      rw [if_neg (by omega), if_pos rfl, if_pos (by omega), if_pos (by simp only [List.length_cons]; omega)]; simp
    · by_cases h2 : o + 1 ≤ i ∧ i < o + 1 + l.length
      · have : i - o = (i - (o + 1)) + 1 := by omega
        rw [if_pos h2, if_pos (by simp only [List.length_cons]; omega), this, List.getElem?_cons_succ]
      · rw [if_neg h2, if_neg (by omega), if_neg (by simp only [List.length_cons]; omega)]

/-- c is n rows of sz cells: row i is f i. -/
structure Rows (sz : Nat) (c : Array Value) (n : Nat) (f : Nat → Array Value) : Prop where
  size : c.size = n * sz
  row : ∀ i < n, ∀ j < sz, c[i * sz + j]? = (f i)[j]?
  len : ∀ i < n, (f i).size = sz

theorem row_lt {i n sz : Nat} (h : i < n) : i * sz + sz ≤ n * sz := by
  have := Nat.mul_le_mul_right sz (Nat.succ_le_of_lt h)
  rw [Nat.succ_mul] at this; exact this
theorem row_ne {i k sz j : Nat} (h : k ≠ i) (hj : j < sz) : ¬ (i * sz ≤ k * sz + j ∧ k * sz + j < i * sz + sz) := by
  rcases Nat.lt_or_gt_of_ne h with h | h
  · have := row_lt (sz := sz) h; omega
  · have := row_lt (sz := sz) h; omega

namespace Rows
variable {sz n : Nat} {c : Array Value} {f : Nat → Array Value}
theorem cell (h : Rows sz c n f) {i j : Nat} (hi : i < n) (hj : j < sz) : c[i * sz + j]? = (f i)[j]? := h.row i hi j hj
theorem part (h : Rows sz c n f) {i o m : Nat} (hi : i < n) (hm : o + m ≤ sz) : getC c (i * sz + o) m = some ((f i).extract o (o + m)) := by
  have h1 := row_lt (sz := sz) hi
  have h2 := h.size
  have h3 := h.len i hi
  unfold getC
  rw [if_pos (by omega)]
  congr 1
  apply Array.ext_getElem?; intro j
  by_cases hj : j < m
  · have h4 := h.row i hi (o + j) (by omega)
    rw [Array.getElem?_extract, Array.getElem?_extract, if_pos (by omega), if_pos (by omega), ← h4]
    congr 1; omega
  · rw [Array.getElem?_extract, Array.getElem?_extract, if_neg (by omega), if_neg (by omega)]
theorem get (h : Rows sz c n f) {i : Nat} (hi : i < n) : getC c (i * sz) sz = some (f i) := by
  have := h.part (o := 0) (m := sz) hi (by omega)
  have h3 := h.len i hi
  rw [Nat.add_zero] at this
  rw [this]; congr 1
  apply Array.ext_getElem?; intro j
  rw [Array.getElem?_extract]
  by_cases hj : j < sz
  · rw [if_pos (by omega)]; simp
  · rw [if_neg (by omega), Array.getElem?_eq_none (by omega)]
theorem set (h : Rows sz c n f) {i : Nat} {l : List Value} (hi : i < n) (hl : l.length = sz) :
    Rows sz (splice c (i * sz) l) n (fun k => if k = i then l.toArray else f k) := by
  have h1 := row_lt (sz := sz) hi
  have h2 := h.size
  refine ⟨by rw [size_splice, h2], fun k hk j hj => ?_, fun k hk => ?_⟩
  · rw [getElem?_splice _ _ _ (by omega)]
    by_cases hki : k = i
    · subst hki; rw [if_pos (by omega)]; simp
    · have := row_ne (sz := sz) hki hj
      rw [if_neg (by omega)]; simp only [hki, if_false]; exact h.row k hk j hj
  · by_cases hki : k = i
    · simp [hki, hl]
    · simp [hki, h.len k hk]
theorem setC (h : Rows sz c n f) {i o : Nat} {l : List Value} (hi : i < n) (hl : o + l.length ≤ sz) :
    Rows sz (splice c (i * sz + o) l) n (fun k => if k = i then splice (f i) o l else f k) := by
  have h1 := row_lt (sz := sz) hi
  have h2 := h.size
  have h3 := h.len i hi
  refine ⟨by rw [size_splice, h2], fun k hk j hj => ?_, fun k hk => ?_⟩
  · rw [getElem?_splice _ _ _ (by omega)]
    by_cases hki : k = i
    · subst hki
      simp only [if_true]
      rw [getElem?_splice _ _ _ (by omega)]
      by_cases hj' : o ≤ j ∧ j < o + l.length
      · rw [if_pos (by omega), if_pos hj']; congr 1; omega
      · rw [if_neg (by omega), if_neg hj']; exact h.row k hk j hj
    · have := row_ne (sz := sz) hki hj
      rw [if_neg (by omega)]; simp only [hki, if_false]; exact h.row k hk j hj
  · by_cases hki : k = i
    · simp [hki, size_splice, h3]
    · simp [hki, h.len k hk]
theorem congr (h : Rows sz c n f) {g : Nat → Array Value} (hg : ∀ i < n, f i = g i) : Rows sz c n g :=
  ⟨h.size, fun i hi j hj => by rw [← hg i hi]; exact h.row i hi j hj, fun i hi => by rw [← hg i hi]; exact h.len i hi⟩
theorem app {n' : Nat} {c' : Array Value} {f' : Nat → Array Value} (h : Rows sz c n f) (h' : Rows sz c' n' f') : Rows sz (c ++ c') (n + n') (fun i => if i < n then f i else f' (i - n)) := by
  refine ⟨by simp [h.size, h'.size, Nat.add_mul], fun i hi j hj => ?_, fun i hi => ?_⟩
  · by_cases hin : i < n
    · have := row_lt (sz := sz) hin
      rw [Array.getElem?_append_left (by rw [h.size]; omega)]; simp only [hin, if_true]; exact h.row i hin j hj
    · have e : i * sz = n * sz + (i - n) * sz := by rw [← Nat.add_mul]; congr 1; omega
      rw [Array.getElem?_append_right (by rw [h.size]; omega)]; simp only [hin, if_false]
      rw [← h'.row (i - n) (by omega) j hj, h.size]; congr 1; omega
  · by_cases hin : i < n
    · simp [hin, h.len i hin]
    · simp [hin, h'.len (i - n) (by omega)]
theorem take (h : Rows sz c n f) {m : Nat} (hm : m ≤ n) : Rows sz (c.extract 0 (m * sz)) m f := by
  have h1 : m * sz ≤ n * sz := Nat.mul_le_mul_right sz hm
  have h2 := h.size
  refine ⟨by simp; omega, fun i hi j hj => ?_, fun i hi => h.len i (by omega)⟩
  have := row_lt (sz := sz) hi
  rw [Array.getElem?_extract, if_pos (by omega), Nat.zero_add]; exact h.row i (by omega) j hj
theorem zero : ∀ (n : Nat) {z : Array Value} (_ : z.size = sz), Rows sz (repZ z n) n (fun _ => z)
  | 0, _, _ => ⟨by simp [repZ], fun i hi => by omega, fun i hi => by omega⟩
  | n + 1, z, hz => by
    have e : repZ z (n + 1) = z ++ repZ z n := by simp [repZ, List.replicate_succ]
    have h1 : Rows sz z 1 (fun _ => z) := by
      refine ⟨by omega, fun i hi j hj => ?_, fun _ _ => hz⟩
      have h0 : i = 0 := by omega
      subst h0; simp
    have := h1.app (Rows.zero n hz)
    rw [e, Nat.add_comm n 1]
    exact this.congr fun i _ => by simp
/-- a splice of whole rows -/
theorem setN (h : Rows sz c n f) {i m : Nat} {l : List Value} {g : Nat → Array Value} (hi : i + m ≤ n) (hl : Rows sz l.toArray m g) :
    Rows sz (splice c (i * sz) l) n (fun k => if i ≤ k ∧ k < i + m then g (k - i) else f k) := by
  have h2 := h.size
  have h3 : l.length = m * sz := by have := hl.size; simpa using this
  have h4 : (i + m) * sz ≤ n * sz := Nat.mul_le_mul_right sz hi
  rw [Nat.add_mul] at h4
  refine ⟨by rw [size_splice, h2], fun k hk j hj => ?_, fun k hk => ?_⟩
  · rw [getElem?_splice _ _ _ (by omega)]
    by_cases hki : i ≤ k ∧ k < i + m
    · have h5 := row_lt (sz := sz) hki.2
      rw [Nat.add_mul] at h5
      have h6 : i * sz ≤ k * sz := Nat.mul_le_mul_right sz hki.1
      have h7 : (k - i) * sz = k * sz - i * sz := Nat.sub_mul k i sz
      simp only [hki, and_self, if_true]
      rw [if_pos (by omega), ← hl.row (k - i) (by omega) j hj]
      simp only [List.getElem?_toArray]
      congr 1; omega
    · simp only [hki, if_false]
      rw [if_neg ?_]; exact h.row k hk j hj
      rcases Nat.lt_or_ge k i with h5 | h5
      · have := row_lt (sz := sz) h5; omega
      · have h6 : i + m ≤ k := by omega
        have h7 : (i + m) * sz ≤ k * sz := Nat.mul_le_mul_right sz h6
        rw [Nat.add_mul] at h7; omega
  · by_cases hki : i ≤ k ∧ k < i + m
    · simp only [hki, and_self, if_true]; exact hl.len _ (by omega)
    · simp only [hki, if_false]; exact h.len k hk
end Rows
end Go.Hc

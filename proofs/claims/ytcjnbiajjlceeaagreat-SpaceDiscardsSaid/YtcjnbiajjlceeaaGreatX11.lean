/- Small words; search. -/
import Derived.Test.YtcjnbiajjlceeaaGreatX10
import Derived.Test.YtcjnbiajjlceeaaGreatX3
import Derived.Test.YtcjnbiajjlceeaaGreatX4
import Derived.Test.YtcjnbiajjlceeaaGreatX5
import Derived.Test.YtcjnbiajjlceeaaGreatX6
import Derived.Test.YtcjnbiajjlceeaaGreatX7
import Derived.Test.YtcjnbiajjlceeaaGreatX8
import Derived.Test.YtcjnbiajjlceeaaGreatX9
set_option linter.unusedSimpArgs false
set_option linter.unusedVariables false
namespace Go.Hc
open Go

abbrev iv (n : Int) : Value := .int .i64 n
abbrev ptr (b : Nat) : Value := .pointer (some ⟨b, 0, none⟩)
/-- Search over places of which a rising row of answers is told, by a function that changes nothing. -/
theorem Search_ev {n : Nat} {f : Value} {g : Nat → Bool} {H : Heap} {R : Value → Heap → Prop} (hn : (n : Int) ≤ 1000000000)
    (hf : ∀ i < n, ∀ Q : Value → Heap → Prop, Q (.bool (g i)) H → callV P f [iv i] H Q)
    (hg : ∀ i j, i ≤ j → j < n → g i = true → g j = true)
    (hR : ∀ k, k ≤ n → (∀ i < k, g i = false) → (∀ i, k ≤ i → i < n → g i = true) → R (iv k) H) :
    EvF P N.sort_Search #[iv n, f] H R := by
  refine z115_ev _ _ _ _ ?_
  simp only [z115_g23, z115_g24, z115_g26, z115_g27, z115_g28, z115_g29, z115_g30, z115_g31, z115_s25, z115_l36, sort_Search]
  refine ⟨fun v w H' => H' = H ∧ ∃ i j : Nat, v = iv i ∧ w = iv j ∧ i ≤ j ∧ j ≤ n ∧ (∀ k < i, g k = false) ∧ (∀ k, j ≤ k → k < n → g k = true),
    fun v w _ => (match v, w with | .int _ i, .int _ j => (j - i).toNat | _, _ => 0), ⟨rfl, 0, n, rfl, rfl, Nat.zero_le _, Nat.le_refl _, by omega, by omega⟩, ?_⟩
  rintro v w H' ⟨rfl, i, j, rfl, rfl, hij, hj, hi1, hj1⟩
  have w1 : IntKind.i64.wrap ((i : Int) + j) = (i : Int) + j := wrap_in (by omega)
  have w2 : IntKind.u64.wrap ((i : Int) + j) = (i : Int) + j := by unfold IntKind.wrap; simp [IntKind.signed, IntKind.bits]; omega
  have w3 : binV .int .shr (.int .u64 ((i : Int) + j)) (.int .u64 1) = some (.int .u64 ((i + j) / 2 : Nat)) := by
    simp only [binV, shV, IntKind.bits]
    rw [if_neg (by omega), Int.fdiv_eq_ediv_of_nonneg _ (by decide)]
    congr 2
  have w4 : IntKind.i64.wrap (((i + j) / 2 : Nat) : Int) = (((i + j) / 2 : Nat) : Int) := wrap_in (by omega)
  have w5 : IntKind.i64.wrap ((((i + j) / 2 : Nat) : Int) + 1) = (((i + j) / 2 + 1 : Nat) : Int) := by rw [wrap_in (by omega)]; omega
  try simp only [bnd_some, brV_t, brV_f, brG_t, brG_f, newE_u, pickE_t, pickE_f, nilV_p, faV_p, ldE_f, ldE_t, rdA_u, stE_p, cells_int, cells_bool, cells_ptr, cells_slice, cells_func, cells_agg, bin_add, bin_sub, bin_mul, bin_eql, bin_neq, bin_lss, bin_leq, bin_gtr, bin_geq, bin_eqlb, bin_neqb, bin_eqlp, bin_eqlp0, bin_neqp, bin_neqp0, bin_eqls, bin_eqls0, un_not, un_neg, len_s, cap_s, ex_t, cv_i, callV_f, Option.bind_some, Option.map_some, Nat.zero_add, Nat.add_zero, Nat.reduceAdd, Nat.reduceMul, size_newB, size_setB, blk_newB_self, own_newB_self, wrA_b, own_setB_m, blk_setB_m, setB_setB, List.getElem?_toArray, List.getElem?_cons_zero, List.getElem?_cons_succ, List.length_cons, List.length_nil, List.all_cons, List.all_nil, isCell_int, isCell_bool, isCell_ptr, isCell_slice, isCell_func, Bool.and_true, Bool.and_self, and_self, if_true, List.size_toArray, and_true, true_and, Nat.reduceLeDiff, Nat.le_refl, Bool.not_true, Bool.not_false, Bool.true_and, Bool.false_and, Bool.and_false, Int.reduceBNe, Int.reduceBEq, Int.reduceLT, Int.reduceLE, decide_true, decide_false, w1, w2, w3, w4, w5]
  refine brV_d (fun h => ?_) (fun h => ?_)
  · have hlt : i < j := by omega
    refine hf _ (by omega) _ ?_
    try simp only [bnd_some, brV_t, brV_f, brG_t, brG_f, newE_u, pickE_t, pickE_f, nilV_p, faV_p, ldE_f, ldE_t, rdA_u, stE_p, cells_int, cells_bool, cells_ptr, cells_slice, cells_func, cells_agg, bin_add, bin_sub, bin_mul, bin_eql, bin_neq, bin_lss, bin_leq, bin_gtr, bin_geq, bin_eqlb, bin_neqb, bin_eqlp, bin_eqlp0, bin_neqp, bin_neqp0, bin_eqls, bin_eqls0, un_not, un_neg, len_s, cap_s, ex_t, cv_i, callV_f, Option.bind_some, Option.map_some, Nat.zero_add, Nat.add_zero, Nat.reduceAdd, Nat.reduceMul, size_newB, size_setB, blk_newB_self, own_newB_self, wrA_b, own_setB_m, blk_setB_m, setB_setB, List.getElem?_toArray, List.getElem?_cons_zero, List.getElem?_cons_succ, List.length_cons, List.length_nil, List.all_cons, List.all_nil, isCell_int, isCell_bool, isCell_ptr, isCell_slice, isCell_func, Bool.and_true, Bool.and_self, and_self, if_true, List.size_toArray, and_true, true_and, Nat.reduceLeDiff, Nat.le_refl, Bool.not_true, Bool.not_false, Bool.true_and, Bool.false_and, Bool.and_false, Int.reduceBNe, Int.reduceBEq, Int.reduceLT, Int.reduceLE, decide_true, decide_false]
    refine brV_i (fun hb => ?_) (fun hb => ?_)
    · refine ⟨⟨(i + j) / 2 + 1, j, rfl, rfl, by omega, hj, fun k hk => ?_, hj1⟩, by omega⟩
      cases hgk : g k with
      | false => rfl
      | true => have := hg k ((i + j) / 2) (by omega) (by omega) hgk
                simp [this] at hb
    · refine ⟨⟨i, (i + j) / 2, rfl, rfl, by omega, by omega, hi1, fun k hk hkn => ?_⟩, by omega⟩
      exact hg _ k hk hkn (by simpa using hb)
  · have : i = j := by omega
    subst this
    exact hR i hj hi1 hj1
def bring (i n : Int) : Int := i % n
theorem Bring_ev {H : Heap} {i n : Int} {R : Value → Heap → Prop} (_ : -9223372036854775808 ≤ i ∧ i ≤ 9223372036854775807) (hn : 0 < n ∧ n ≤ 9223372036854775807) (hR : R (iv (bring i n)) H) : EvF P N.sounderref00_Bring #[iv i, iv n] H R := by
  refine z11_ev _ _ _ _ ?_
  simp only [z11_g12, z11_g13, z11_g15, z11_s14, z11_g17, z11_g18, sounderref00_Bring]
  try simp only [bnd_some, brV_t, brV_f, brG_t, brG_f, newE_u, pickE_t, pickE_f, nilV_p, faV_p, ldE_f, ldE_t, rdA_u, stE_p, cells_int, cells_bool, cells_ptr, cells_slice, cells_func, cells_agg, bin_add, bin_sub, bin_mul, bin_eql, bin_neq, bin_lss, bin_leq, bin_gtr, bin_geq, bin_eqlb, bin_neqb, bin_eqlp, bin_eqlp0, bin_neqp, bin_neqp0, bin_eqls, bin_eqls0, un_not, un_neg, len_s, cap_s, ex_t, cv_i, callV_f, Option.bind_some, Option.map_some, Nat.zero_add, Nat.add_zero, Nat.reduceAdd, Nat.reduceMul, size_newB, size_setB, blk_newB_self, own_newB_self, wrA_b, own_setB_m, blk_setB_m, setB_setB, List.getElem?_toArray, List.getElem?_cons_zero, List.getElem?_cons_succ, List.length_cons, List.length_nil, List.all_cons, List.all_nil, isCell_int, isCell_bool, isCell_ptr, isCell_slice, isCell_func, Bool.and_true, Bool.and_self, and_self, if_true, List.size_toArray, and_true, true_and, Nat.reduceLeDiff, Nat.le_refl, Bool.not_true, Bool.not_false, Bool.true_and, Bool.false_and, Bool.and_false, Int.reduceBNe, Int.reduceBEq, Int.reduceLT, Int.reduceLE, decide_true, decide_false, bin_rem (show n ≠ 0 by omega)]
  have h1 := Int.emod_nonneg i (b := n) (by omega)
  have h2 := Int.emod_lt_of_pos i hn.1
  have h3 : i.tmod n = if 0 ≤ i ∨ n ∣ i then i % n else i % n - n := by
    rw [Int.tmod_eq_emod]; split
    · omega
    · rw [Int.natAbs_of_nonneg (by omega)]
  refine brV_d (fun h => ?_) (fun h => ?_)
  · have e : i.tmod n = i % n - n := by
      by_cases c : 0 ≤ i ∨ n ∣ i
      · rw [if_pos c] at h3; omega
      · rw [if_neg c] at h3; exact h3
    rw [e, wrap_in (by omega)]
    have : i % n - n + n = bring i n := by unfold bring; omega
    rw [this]; exact hR
  · have e : i.tmod n = i % n := by
      by_cases c : 0 ≤ i ∨ n ∣ i
      · rw [if_pos c] at h3; exact h3
      · rw [if_neg c] at h3; omega
    rw [e]; exact hR
theorem bring_r {i n : Int} (hn : 0 < n) : 0 ≤ bring i n ∧ bring i n < n := ⟨Int.emod_nonneg i (by omega), Int.emod_lt_of_pos i hn⟩
end Go.Hc
set_option linter.unusedSimpArgs false
set_option linter.unusedVariables false
namespace Go.Hc
open Go

abbrev Rng := Int × Int
structure Okr (rs : List Rng) : Prop where
  each : ∀ r ∈ rs, 0 ≤ r.1 ∧ r.1 ≤ r.2 ∧ r.2 ≤ 9007199254740991
  up : rs.Pairwise fun a b => a.2 + 1 < b.1
def fi (p : Rng → Bool) (rs : List Rng) : Nat := (rs.takeWhile p).length
def lowI (n : Int) (rs : List Rng) : Nat := fi (fun r => decide (r.2 < n)) rs
def topI (n : Int) (rs : List Rng) : Nat := fi (fun r => decide (r.1 ≤ n)) rs
def addX (rs : List Rng) (lo hi : Int) : Rng := if lowI (lo - 1) rs < topI (hi + 1) rs then (min lo (rs.getD (lowI (lo - 1) rs) (0, 0)).1, max hi (rs.getD (topI (hi + 1) rs - 1) (0, 0)).2) else (lo, hi)
def addL (rs : List Rng) (lo hi : Int) : List Rng := rs.take (lowI (lo - 1) rs) ++ addX rs lo hi :: rs.drop (topI (hi + 1) rs)
def Mem (rs : List Rng) (n : Int) : Prop := ∃ r ∈ rs, r.1 ≤ n ∧ n ≤ r.2
def cutH (b : Int) : List Rng → List Rng
  | [] => []
  | r :: l => (max r.1 b, r.2) :: l
def cutL (rs : List Rng) (b : Int) : List Rng := cutH b (rs.drop (lowI b rs))
def cnt : List Rng → Int
  | [] => 0
  | r :: l => (r.2 - r.1 + 1) + cnt l

theorem fi_le (p : Rng → Bool) (rs : List Rng) : fi p rs ≤ rs.length := by
  induction rs with
  | nil => simp [fi]
  | cons r l ih =>
    simp only [fi, List.takeWhile_cons] at ih ⊢
    split <;> simp <;> omega
theorem fi_lt {p : Rng → Bool} : ∀ {rs : List Rng} {i : Nat} (h : i < rs.length), i < fi p rs → p rs[i] = true
  | r :: l, i, h, hi => by
    simp only [fi, List.takeWhile_cons] at hi
    split at hi
    · rename_i hr
      cases i with
      | zero => exact hr
      | succ i => exact fi_lt (rs := l) (by simpa using h) (by simpa [fi] using hi)
    · simp at hi
theorem fi_at {p : Rng → Bool} : ∀ {rs : List Rng} (h : fi p rs < rs.length), p rs[fi p rs] = false
  | r :: l, h => by
    cases hr : p r with
    | false => simp [fi, List.takeWhile_cons, hr]
    | true =>
      have e : fi p (r :: l) = fi p l + 1 := by simp [fi, List.takeWhile_cons, hr]
      have h' : fi p l < l.length := by rw [e] at h; simpa using h
      have := fi_at h'
      simp only [e, List.getElem_cons_succ]; exact this
theorem fi_eq {p : Rng → Bool} {rs : List Rng} {k : Nat} (hk : k ≤ rs.length) (h1 : ∀ i (h : i < rs.length), i < k → p rs[i] = true) (h2 : ∀ h : k < rs.length, p rs[k] = false) : fi p rs = k := by
  rcases Nat.lt_trichotomy (fi p rs) k with h | h | h
  · have ha := fi_at (p := p) (rs := rs) (by omega)
    rw [h1 _ (by omega) h] at ha; cases ha
  · exact h
  · have hb := fi_le p rs
    have ha := fi_lt (p := p) (rs := rs) (i := k) (by omega) h
    rw [h2 (by omega)] at ha; cases ha

section
variable {rs : List Rng}
theorem Okr.lt (h : Okr rs) {i j : Nat} (hij : i < j) (hj : j < rs.length) : (rs[i]'(by omega)).2 + 1 < rs[j].1 := (List.pairwise_iff_getElem.1 h.up) i j _ hj hij
theorem Okr.at (h : Okr rs) {i : Nat} (hi : i < rs.length) : 0 ≤ rs[i].1 ∧ rs[i].1 ≤ rs[i].2 ∧ rs[i].2 ≤ 9007199254740991 := h.each _ (List.getElem_mem hi)
theorem Okr.le2 (h : Okr rs) {i j : Nat} (hij : i ≤ j) (hj : j < rs.length) : (rs[i]'(by omega)).2 ≤ rs[j].2 ∧ (rs[i]'(by omega)).1 ≤ rs[j].1 := by
  rcases Nat.lt_or_ge i j with h1 | h1
  · have := h.lt h1 hj; have := h.at hj; have := h.at (show i < rs.length by omega); omega
  · have : i = j := by omega
    subst this; omega
theorem lowI_lt {n : Int} {i : Nat} (hi : i < rs.length) (h : i < lowI n rs) : rs[i].2 < n := by simpa using fi_lt hi h
theorem lowI_ge (h : Okr rs) {n : Int} {i : Nat} (hi : i < rs.length) (hl : lowI n rs ≤ i) : n ≤ rs[i].2 := by
  have h1 : lowI n rs < rs.length := by omega
  have h2 := fi_at (p := fun r => decide (r.2 < n)) h1
  have h3 : n ≤ (rs[lowI n rs]'h1).2 := by have h4 := of_decide_eq_false h2; exact Int.not_lt.1 h4
  have := (h.le2 hl hi).1
  omega
theorem topI_lt {n : Int} {i : Nat} (hi : i < rs.length) (h : i < topI n rs) : rs[i].1 ≤ n := by simpa using fi_lt hi h
theorem topI_ge (h : Okr rs) {n : Int} {i : Nat} (hi : i < rs.length) (hl : topI n rs ≤ i) : n < rs[i].1 := by
  have h1 : topI n rs < rs.length := by omega
  have h2 := fi_at (p := fun r => decide (r.1 ≤ n)) h1
  have h3 : n < (rs[topI n rs]'h1).1 := by have h4 := of_decide_eq_false h2; exact Int.not_le.1 h4
  have := (h.le2 hl hi).2
  omega
theorem low_top (h : Okr rs) {lo hi : Int} (hle : lo ≤ hi) : lowI (lo - 1) rs ≤ topI (hi + 1) rs := by
  rcases Nat.lt_or_ge (topI (hi + 1) rs) (lowI (lo - 1) rs) with h1 | h1
  · have h0 : lowI (lo - 1) rs ≤ rs.length := fi_le _ _
    have hi' : topI (hi + 1) rs < rs.length := by omega
    have h2 := lowI_lt hi' h1
    have h3 := topI_ge h hi' (Nat.le_refl _)
    have h4 := h.at hi'
    omega
  · exact h1
theorem mem_ix {n : Int} : Mem rs n ↔ ∃ i, ∃ h : i < rs.length, rs[i].1 ≤ n ∧ n ≤ rs[i].2 := by
  constructor
  · rintro ⟨r, hr, h1, h2⟩
    obtain ⟨i, hi, rfl⟩ := List.getElem_of_mem hr
    exact ⟨i, hi, h1, h2⟩
  · rintro ⟨i, hi, h1, h2⟩
    exact ⟨_, List.getElem_mem hi, h1, h2⟩
theorem addL_len (h : Okr rs) {lo hi : Int} (hle : lo ≤ hi) : (addL rs lo hi).length = rs.length - (topI (hi + 1) rs - lowI (lo - 1) rs) + 1 := by
  have h1 := low_top h hle
  have h2 : topI (hi + 1) rs ≤ rs.length := fi_le _ _
  simp [addL]; omega
theorem getD_at {i : Nat} (h : i < rs.length) : rs.getD i (0, 0) = rs[i] := by simp [List.getD, h]
theorem addX_bounds (h : Okr rs) {lo hi : Int} (h0 : 0 ≤ lo) (hle : lo ≤ hi) (hm : hi ≤ 9007199254740991) :
    0 ≤ (addX rs lo hi).1 ∧ (addX rs lo hi).1 ≤ lo ∧ hi ≤ (addX rs lo hi).2 ∧ (addX rs lo hi).2 ≤ 9007199254740991 := by
  have h2 : topI (hi + 1) rs ≤ rs.length := fi_le _ _
  unfold addX
  split
  · rename_i hlt
    rw [getD_at (by omega), getD_at (by omega)]
    have h3 := h.at (show lowI (lo - 1) rs < rs.length by omega)
    have h4 := h.at (show topI (hi + 1) rs - 1 < rs.length by omega)
    simp only
    omega
  · simp only; omega
theorem addL_mem (h : Okr rs) {lo hi n : Int} (hle : lo ≤ hi) : Mem (addL rs lo hi) n ↔ Mem rs n ∨ (lo ≤ n ∧ n ≤ hi) := by
  have h1 := low_top h hle
  have h2 : topI (hi + 1) rs ≤ rs.length := fi_le _ _
  constructor
  · rintro ⟨r, hr, hn1, hn2⟩
    simp only [addL, List.mem_append, List.mem_cons] at hr
    rcases hr with hr | rfl | hr
    · exact .inl ⟨r, List.mem_of_mem_take hr, hn1, hn2⟩
    · unfold addX at hn1 hn2
      split at hn1
      · rename_i hlt
        rw [if_pos hlt] at hn2
        have f1 : lowI (lo - 1) rs < rs.length := by omega
        have f2 : topI (hi + 1) rs - 1 < rs.length := by omega
        rw [getD_at f1] at hn1
        rw [getD_at f2] at hn2
        have g1 := lowI_ge h f1 (Nat.le_refl _)
        have g2 := topI_lt (n := hi + 1) f2 (by omega)
        simp only at hn1 hn2
        by_cases c1 : n < lo
        · exact .inl (mem_ix.2 ⟨_, f1, by omega, by omega⟩)
        · by_cases c2 : hi < n
          · exact .inl (mem_ix.2 ⟨_, f2, by omega, by omega⟩)
          · exact .inr ⟨by omega, by omega⟩
      · rename_i hlt
        rw [if_neg hlt] at hn2
        exact .inr ⟨hn1, hn2⟩
    · exact .inl ⟨r, List.mem_of_mem_drop hr, hn1, hn2⟩
  · intro hh
    have hx : (addX rs lo hi).1 ≤ n → n ≤ (addX rs lo hi).2 → Mem (addL rs lo hi) n := fun a b => ⟨_, by simp [addL], a, b⟩
    rcases hh with hh | hh
    · obtain ⟨i, hi', hn1, hn2⟩ := mem_ix.1 hh
      by_cases c1 : i < lowI (lo - 1) rs
      · refine ⟨rs[i], ?_, hn1, hn2⟩
        simp only [addL, List.mem_append]
        exact .inl (List.mem_take_iff_getElem.2 ⟨i, by omega, rfl⟩)
      · by_cases c2 : topI (hi + 1) rs ≤ i
        · refine ⟨rs[i], ?_, hn1, hn2⟩
          simp only [addL, List.mem_append, List.mem_cons]
          refine .inr (.inr (List.mem_drop_iff_getElem.2 ⟨i - topI (hi + 1) rs, by omega, ?_⟩))
          congr 1; omega
        · have hlt : lowI (lo - 1) rs < topI (hi + 1) rs := by omega
          have g1 := (h.le2 (show lowI (lo - 1) rs ≤ i by omega) hi').2
          have g2 := (h.le2 (show i ≤ topI (hi + 1) rs - 1 by omega) (by omega)).1
          refine hx ?_ ?_
          · unfold addX; rw [if_pos hlt, getD_at (by omega)]; simp only; omega
          · unfold addX; rw [if_pos hlt, getD_at (rs := rs) (i := topI (hi + 1) rs - 1) (by omega)]; simp only; omega
    · refine hx ?_ ?_
      · unfold addX; split <;> simp only <;> omega
      · unfold addX; split <;> simp only <;> omega
theorem addL_ok (h : Okr rs) {lo hi : Int} (h0 : 0 ≤ lo) (hle : lo ≤ hi) (hm : hi ≤ 9007199254740991) : Okr (addL rs lo hi) := by
  have h1 := low_top h hle
  have h2 : topI (hi + 1) rs ≤ rs.length := fi_le _ _
  have hb := addX_bounds h h0 hle hm
  constructor
  · intro r hr
    simp only [addL, List.mem_append, List.mem_cons] at hr
    rcases hr with hr | rfl | hr
    · exact h.each r (List.mem_of_mem_take hr)
    · omega
    · exact h.each r (List.mem_of_mem_drop hr)
  · unfold addL
    rw [List.pairwise_append, List.pairwise_cons]
    have key1 : ∀ a ∈ rs.take (lowI (lo - 1) rs), a.2 + 1 < (addX rs lo hi).1 := by
      intro a ha
      obtain ⟨i, hi', rfl⟩ := List.mem_take_iff_getElem.1 ha
      have g1 := lowI_lt (show i < rs.length by omega) (show i < lowI (lo - 1) rs by omega)
      unfold addX
      split
      · rename_i hlt
        rw [getD_at (by omega)]
        have g2 := h.lt (show i < lowI (lo - 1) rs by omega) (by omega)
        simp only; omega
      · simp only; omega
    have key2 : ∀ b ∈ rs.drop (topI (hi + 1) rs), (addX rs lo hi).2 + 1 < b.1 := by
      intro b hb'
      obtain ⟨i, hi', rfl⟩ := List.mem_drop_iff_getElem.1 hb'
      have g1 := topI_ge h (n := hi + 1) (i := topI (hi + 1) rs + i) (by omega) (by omega)
      unfold addX
      split
      · rename_i hlt
        rw [getD_at (i := topI (hi + 1) rs - 1) (by omega)]
        have g2 := h.lt (show topI (hi + 1) rs - 1 < topI (hi + 1) rs + i by omega) (by omega)
        simp only; omega
      · simp only; omega
    refine ⟨h.up.sublist (List.take_sublist _ _), ⟨key2, h.up.sublist (List.drop_sublist _ _)⟩, fun a ha b hb' => ?_⟩
    rcases List.mem_cons.1 hb' with rfl | hb'
    · exact key1 a ha
    · have := key1 a ha; have := key2 b hb'; omega

theorem Okr.tail {r : Rng} {l : List Rng} (h : Okr (r :: l)) : Okr l := ⟨fun x hx => h.each x (by simp [hx]), (List.pairwise_cons.1 h.up).2⟩
theorem Okr.nil : Okr [] := ⟨by simp, by simp⟩
theorem Okr.first {r : Rng} {l : List Rng} (h : Okr (r :: l)) {n : Int} (hn : Mem (r :: l) n) : r.1 ≤ n := by
  obtain ⟨x, hx, h1, h2⟩ := hn
  rcases List.mem_cons.1 hx with rfl | hx
  · exact h1
  · have := (List.pairwise_cons.1 h.up).1 x hx
    have := h.each r (by simp); omega
theorem Okr.gap {r : Rng} {l : List Rng} (h : Okr (r :: l)) {n : Int} (hn : r.2 < n) : Mem (r :: l) n ↔ Mem l n := by
  constructor
  · rintro ⟨x, hx, h1, h2⟩
    rcases List.mem_cons.1 hx with rfl | hx
    · omega
    · exact ⟨x, hx, h1, h2⟩
  · rintro ⟨x, hx, h1, h2⟩; exact ⟨x, by simp [hx], h1, h2⟩
theorem Okr.after {r : Rng} {l : List Rng} (h : Okr (r :: l)) {n : Int} (hn : Mem l n) : r.2 + 1 < n := by
  obtain ⟨x, hx, h1, h2⟩ := hn
  have := (List.pairwise_cons.1 h.up).1 x hx; omega
/-- Sets of the same numbers are the same ranges. -/
theorem Okr.ext : ∀ {a b : List Rng}, Okr a → Okr b → (∀ n, Mem a n ↔ Mem b n) → a = b
  | [], [], _, _, _ => rfl
  | [], r :: l, _, hb, h => by
    have := hb.each r (by simp)
    obtain ⟨x, hx, _⟩ := (h r.1).2 ⟨r, by simp, by omega, by omega⟩
    simp at hx
  | r :: l, [], ha, _, h => by
    have := ha.each r (by simp)
    obtain ⟨x, hx, _⟩ := (h r.1).1 ⟨r, by simp, by omega, by omega⟩
    simp at hx
  | r :: l, s :: m, ha, hb, h => by
    have e1 := ha.each r (by simp)
    have e2 := hb.each s (by simp)
    have m1 : Mem (r :: l) r.1 := ⟨r, by simp, by omega, by omega⟩
    have m2 : Mem (s :: m) s.1 := ⟨s, by simp, by omega, by omega⟩
    have f1 := hb.first ((h _).1 m1)
    have f2 := ha.first ((h _).2 m2)
    have m3 : Mem (r :: l) r.2 := ⟨r, by simp, by omega, by omega⟩
    have m4 : Mem (s :: m) s.2 := ⟨s, by simp, by omega, by omega⟩
    have hhi : r.2 = s.2 := by
      rcases Int.lt_trichotomy r.2 s.2 with hlt | heq | hgt
      · have : Mem (s :: m) (r.2 + 1) := ⟨s, by simp, by omega, by omega⟩
        have h2 := (ha.gap (by omega)).1 ((h _).2 this)
        have := ha.after h2; omega
      · exact heq
      · have : Mem (r :: l) (s.2 + 1) := ⟨r, by simp, by omega, by omega⟩
        have h2 := (hb.gap (by omega)).1 ((h _).1 this)
        have := hb.after h2; omega
    have hr : r = s := Prod.ext (by omega) hhi
    subst hr
    congr 1
    refine Okr.ext ha.tail hb.tail fun n => ?_
    constructor
    · intro hn
      have g := ha.after hn
      exact (hb.gap (by omega)).1 ((h n).1 ((ha.gap (by omega)).2 hn))
    · intro hn
      have g := hb.after hn
      exact (ha.gap (by omega)).1 ((h n).2 ((hb.gap (by omega)).2 hn))

theorem cutL_ok (h : Okr rs) {b : Int} (hb : 0 ≤ b) : Okr (cutL rs b) := by
  have h1 : Okr (rs.drop (lowI b rs)) := ⟨fun r hr => h.each r (List.mem_of_mem_drop hr), h.up.sublist (List.drop_sublist _ _)⟩
  unfold cutL
  cases hd : rs.drop (lowI b rs) with
  | nil => exact Okr.nil
  | cons r l =>
    rw [hd] at h1
    have hlen : lowI b rs < rs.length := by
      rcases Nat.lt_or_ge (lowI b rs) rs.length with hh | hh
      · exact hh
      · rw [List.drop_of_length_le hh] at hd; cases hd
    have hr : rs[lowI b rs] = r := by rw [List.drop_eq_getElem_cons hlen] at hd; injection hd
    have hge := lowI_ge h hlen (Nat.le_refl _)
    rw [hr] at hge
    have e := h1.each r (by simp)
    refine ⟨fun x hx => ?_, List.pairwise_cons.2 ⟨fun x hx => ?_, h1.tail.up⟩⟩
    · rcases List.mem_cons.1 hx with rfl | hx
      · simp only; omega
      · exact h1.each x (by simp [hx])
    · exact (List.pairwise_cons.1 h1.up).1 x hx
theorem cutL_mem (h : Okr rs) {b n : Int} : Mem (cutL rs b) n ↔ Mem rs n ∧ b ≤ n := by
  unfold cutL
  have hlow : ∀ x ∈ rs.take (lowI b rs), x.2 < b := fun x hx => by
    obtain ⟨i, hi, rfl⟩ := List.mem_take_iff_getElem.1 hx
    exact lowI_lt (by omega) (by omega)
  have hmem : ∀ x, x ∈ rs ↔ x ∈ rs.take (lowI b rs) ∨ x ∈ rs.drop (lowI b rs) := fun x => by
    have := List.take_append_drop (lowI b rs) rs
    constructor
    · intro hx; rw [← this] at hx; exact List.mem_append.1 hx
    · intro hx; rw [← this]; exact List.mem_append.2 hx
  have hge : ∀ x ∈ rs.drop (lowI b rs), b ≤ x.2 := fun x hx => by
    obtain ⟨i, hi, rfl⟩ := List.mem_drop_iff_getElem.1 hx
    exact lowI_ge h (by omega) (by omega)
  have hok : Okr (rs.drop (lowI b rs)) := ⟨fun r hr => h.each r (List.mem_of_mem_drop hr), h.up.sublist (List.drop_sublist _ _)⟩
  have step : Mem rs n ∧ b ≤ n ↔ Mem (rs.drop (lowI b rs)) n ∧ b ≤ n := by
    constructor
    · rintro ⟨⟨x, hx, h1, h2⟩, h3⟩
      rcases (hmem x).1 hx with hx | hx
      · have := hlow x hx; omega
      · exact ⟨⟨x, hx, h1, h2⟩, h3⟩
    · rintro ⟨⟨x, hx, h1, h2⟩, h3⟩
      exact ⟨⟨x, (hmem x).2 (.inr hx), h1, h2⟩, h3⟩
  rw [step]
  cases hd : rs.drop (lowI b rs) with
  | nil => simp [cutH, Mem]
  | cons r l =>
    rw [hd] at hge hok
    have g := hge r (by simp)
    constructor
    · rintro ⟨x, hx, h1, h2⟩
      rcases List.mem_cons.1 hx with rfl | hx
      · simp only at h1 h2; exact ⟨⟨r, by simp, by omega, h2⟩, by omega⟩
      · have := (List.pairwise_cons.1 hok.up).1 x hx
        exact ⟨⟨x, by simp [hx], h1, h2⟩, by omega⟩
    · rintro ⟨⟨x, hx, h1, h2⟩, h3⟩
      rcases List.mem_cons.1 hx with rfl | hx
      · exact ⟨(max x.1 b, x.2), by simp [cutH], by simp only; omega, h2⟩
      · exact ⟨x, by simp [cutH, hx], h1, h2⟩
theorem cnt_bound : ∀ {rs : List Rng} {a : Int}, Okr rs → (∀ r ∈ rs, a ≤ r.1) → a ≤ 9007199254740992 → 0 ≤ cnt rs ∧ cnt rs ≤ 9007199254740992 - a
  | [], a, _, _, ha => by simp [cnt]; omega
  | r :: l, a, h, ha, _ => by
    have h1 := ha r (by simp)
    have h2 := h.each r (by simp)
    have := cnt_bound (rs := l) (a := r.2 + 1) h.tail (fun x hx => by have := (List.pairwise_cons.1 h.up).1 x hx; omega) (by omega)
    simp only [cnt]; omega
theorem cnt_app : ∀ (a b : List Rng), cnt (a ++ b) = cnt a + cnt b
  | [], b => by simp [cnt]
  | r :: a, b => by simp only [List.cons_append, cnt, cnt_app a b]; omega
theorem cnt_rev (a : List Rng) : cnt a.reverse = cnt a := by
  induction a with
  | nil => rfl
  | cons r a ih => rw [List.reverse_cons, cnt_app, ih]; simp only [cnt]; omega
end
end Go.Hc
set_option linter.unusedSimpArgs false
set_option linter.unusedVariables false
namespace Go.Hc
open Go

def rngC (p : Rng) : Array Value := #[iv p.1, iv p.2]
def rngE : Enc Rng := ⟨2, #[iv 0, iv 0], rngC, fun _ => rfl, rfl, fun _ => by simp [rngC, isCell], by simp [isCell]⟩
theorem rngZ : rngE.z.size = 2 ∧ rngE.z.all isCell = true := ⟨rfl, by simp [rngE, isCell]⟩

theorem Insert_ev {H : Heap} {v w : Value} {S T : List Nat} {l : List Rng} {x : Rng} {i : Nat} {R : Value → Heap → Prop} (hv : OwnL rngE H v S l) (hw : OwnL rngE H w T [x]) (hd : ∀ b ∈ T, b ∉ S) (hi : i ≤ l.length) (hs : l.length ≤ 1000000)
    (hR : ∀ v' S' H', Ext S H H' → (∀ b ∈ S', b ∈ S ∨ H.size ≤ b) → OwnL rngE H' v' S' (l.take i ++ x :: l.drop i) → R v' H') : EvF P N.slices_Insert_Range #[v, iv i, w] H R := by
  refine z157_ev _ _ _ _ _ ?_
  have hw0 := hw.show
  have h1 : ((1 : Int) == 0) = false := rfl
  have hwl : lenV w = some (.int .i64 1) := hw.len
  by_cases hin : i = l.length
  · subst hin
    have e : v = .slice none 0 0 ∧ l = [] ∨ ∃ b cap, v = .slice (some ⟨b, 0, none⟩) l.length cap := by
      cases hv with
      | nil => exact .inl ⟨rfl, rfl⟩
      | mk => exact .inr ⟨_, _, rfl⟩
    have hsl : ∃ q, sliceV 2 v (some (iv l.length)) none = some q := by
      rcases e with ⟨rfl, rfl⟩ | ⟨b, cap, rfl⟩
      · exact ⟨_, rfl⟩
      · obtain ⟨hn, hS, hc, hm, f, hb, hf⟩ := hv.blk
        obtain ⟨o, ho, _⟩ := sub_mk (sz := 2) (b := b) (bound_i (d := 0) (hi := l.length) (k := .i64) rfl (Nat.le_refl l.length)) (bound_n l.length cap) ⟨Nat.le_refl _, hc⟩
        exact ⟨_, ho⟩
    obtain ⟨q, hq⟩ := hsl
    simp only [z157_g51, z157_g52, z157_g53, z157_g54, z157_g55, z157_g56, z157_g57, z157_g58, z157_g59, z157_g60, z157_g61, z157_g62, z157_g63, z157_g64, z157_g65, slices_Insert_Range]
    try simp only [ew, Nat.reduceAdd, Nat.reduceMul, Nat.reduceLeDiff, Int.reduceBNe, Int.reduceBEq, Int.reduceLT, Int.reduceLE, bin_add, bin_sub, hq, hwl, hv.len, h1, beq_self_eq_true]
    refine appE_l (E := rngE) hv hw0 (by simp; omega) (by decide) (by simp; omega) fun v' S' H' he hS' ho => ?_
    exact hR v' S' H' he hS' (by simpa using ho)
  · have hlt : i < l.length := by omega
    obtain ⟨b, cap, rfl⟩ : ∃ b cap, v = .slice (some ⟨b, 0, none⟩) l.length cap := by
      cases hv with
      | nil => simp at hlt
      | mk => exact ⟨_, _, rfl⟩
    obtain ⟨wb, wc, rfl⟩ : ∃ b cap, w = .slice (some ⟨b, 0, none⟩) 1 cap := by
      generalize hx : [x] = m at hw
      cases hw with
      | nil => simp at hx
      | mk => subst hx; exact ⟨_, _, rfl⟩
    obtain ⟨_, rfl, hc, hm, f, hb, hf⟩ := hv.blk
    obtain ⟨_, rfl, hwc, _, fw, hwb, hfw⟩ := hw.blk
    have hne : wb ≠ b := by simpa using hd
    have hsrc : Src 2 H (.slice (some ⟨wb, 0, none⟩) 1 wc) 1 (fun _ => rngC x) := by
      have := Sub.src (sz := 2) (b := wb) (d := 0) (n := 1) (v := .slice (some ⟨wb, 0, none⟩) 1 wc) ⟨_, _, rfl, .inl rfl⟩ hwb (by simpa using hwc) (fun i hi => by
        have : i = 0 := by omega
        subst this; rw [hfw 0 (by simp)]; exact rngE.cell _) (Nat.le_refl _)
      obtain ⟨a1, a2, a3, a4, a5⟩ := this
      refine ⟨a1, a2, a3, fun p hp => ?_, fun _ _ => rngE.cell x⟩
      obtain ⟨cs, q1, q2⟩ := a4 p hp
      exact ⟨cs, q1, q2.congr fun j hj => by
        have : j = 0 := by omega
        subst this; exact hfw 0 (by simp)⟩
    have h2 : ((i : Int) == (l.length : Int)) = false := by simp; omega
    have w1 : IntKind.i64.wrap ((l.length : Int) + 1) = ((l.length + 1 : Nat) : Int) := by rw [wrap_in (by omega)]; omega
    have w2 : IntKind.i64.wrap ((i : Int) + 1) = ((i + 1 : Nat) : Int) := by rw [wrap_in (by omega)]; omega
    have w3 : IntKind.i64.wrap (((l.length + 1 : Nat) : Int) - (i : Int)) = ((l.length + 1 - i : Nat) : Int) := by rw [wrap_in (by omega)]; omega
    obtain ⟨o1, q1, p1⟩ := sub_mk (sz := 2) (b := b) (n := l.length) (cap := cap) (bound_i (d := 0) (hi := l.length) (k := .i64) (rfl : (i : Int) = (i : Nat)) hi) (bound_n l.length cap) ⟨hi, hc⟩
    have cellR : ∀ j < l.length, (f j).all isCell = true := fun j hj => by rw [hf j hj]; exact rngE.cell _
    have hsrc2 : ∀ {H'}, Blk 2 H' b cap f → Src 2 H' (.slice (some ⟨b, o1, none⟩) (l.length - i) (cap - i)) (l.length - i) (fun j => f (i + j)) := fun hb => Sub.src ⟨_, _, rfl, p1⟩ hb (by omega) (fun j hj => cellR _ (by omega)) (Nat.le_refl _)
    have hcap : capV (.slice (some ⟨b, 0, none⟩) l.length cap) = some (.int .i64 cap) := rfl
    have fin : ∀ (g : Nat → Array Value), (∀ j, j < i → g j = f j) → g i = rngC x → (∀ j, i + 1 ≤ j → j < l.length + 1 → g j = f (j - 1)) → ∀ j (hj : j < (l.take i ++ x :: l.drop i).length), g j = rngE.c ((l.take i ++ x :: l.drop i)[j]) := by
      intro g g1 g2 g3 j hj
      have hlen : (l.take i ++ x :: l.drop i).length = l.length + 1 := by simp; omega
      rw [hlen] at hj
      rcases Nat.lt_trichotomy j i with h | h | h
      · rw [List.getElem_append_left (by simp; omega), g1 j h, hf j (by omega)]; simp
      · subst h; rw [List.getElem_append_right (by simp; omega), g2]; have e : j - (l.take j).length = 0 := by simp; omega
        simp only [e, List.getElem_cons_zero]; rfl
      · rw [List.getElem_append_right (by simp; omega), g3 j (by omega) hj, hf (j - 1) (by omega)]
        have e : j - (l.take i).length = (j - 1 - i) + 1 := by simp; omega
        simp only [e, List.getElem_cons_succ, List.getElem_drop]
        congr 2; omega
    simp only [z157_g51, z157_g52, z157_g53, z157_g54, z157_g55, z157_g56, z157_g57, z157_g58, z157_g59, slices_Insert_Range]
    try simp only [ew, Nat.reduceAdd, Nat.reduceMul, Nat.reduceLeDiff, Int.reduceBNe, Int.reduceBEq, Int.reduceLT, Int.reduceLE, bin_add, bin_sub, q1, hwl, hv.len, h1, h2, w1, hcap]
    refine brV_d (fun hfull => ?_) (fun hroom => ?_)
    · obtain ⟨o2, q2, p2⟩ := sub_mk (sz := 2) (b := b) (n := l.length) (cap := cap) (lo := none) (bound_n 0 i) (bound_i (d := l.length) (hi := cap) (k := .i64) (rfl : (i : Int) = (i : Nat)) (by omega)) ⟨by omega, by omega⟩
      have o20 : o2 = 0 := by omega
      subst o20
      simp only [Nat.sub_zero] at q2
      simp only [z157_g51, z157_g52, z157_g53, z157_g54, z157_g55, z157_g56, z157_g57, z157_g58, z157_g59, z157_g60, z157_g61, z157_g62, z157_g63, z157_g64, z157_g65, z157_g66, z157_g67, z157_g68, z157_g69, z157_g70, z157_g71, slices_Insert_Range]
      try simp only [ew, Nat.reduceAdd, Nat.reduceMul, Nat.reduceLeDiff, Int.reduceBNe, Int.reduceBEq, Int.reduceLT, Int.reduceLE, bin_add, bin_sub, q2, w1, w3]
      refine appZ_new (sz := 2) (n := l.length + 1 - i) rfl hb (by omega) rfl (by omega) (by omega) (by decide) fun H1 c1 e1 z1 hc1 hc2 hB1 => ?_
      obtain ⟨o3, q3, p3⟩ := sub_mk (sz := 2) (b := H.size) (n := i + (l.length + 1 - i)) (cap := c1) (bound_i (d := 0) (hi := i + (l.length + 1 - i)) (k := .i64) (rfl : (i : Int) = (i : Nat)) (by omega)) (bound_n (i + (l.length + 1 - i)) c1) ⟨by omega, by omega⟩
      try simp only [ew, Nat.reduceAdd, Nat.reduceMul, Nat.reduceLeDiff, Int.reduceBNe, Int.reduceBEq, Int.reduceLT, Int.reduceLE, bin_add, bin_sub, q3]
      have hs1 := hsrc.ext e1 (by simp)
      refine cpy_blk hB1 ⟨_, _, rfl, p3⟩ hs1 (Nat.min_le_left _ _) (by rw [nmin]; split <;> omega) fun H2 e2 z2 hB2 => ?_
      obtain ⟨o4, q4, p4⟩ := sub_mk (sz := 2) (b := H.size) (n := i + (l.length + 1 - i)) (cap := c1) (bound_i (d := 0) (hi := i + (l.length + 1 - i)) (k := .i64) (rfl : ((i + 1 : Nat) : Int) = (i + 1 : Nat)) (by omega)) (bound_n (i + (l.length + 1 - i)) c1) ⟨by omega, by omega⟩
      try simp only [ew, Nat.reduceAdd, Nat.reduceMul, Nat.reduceLeDiff, Int.reduceBNe, Int.reduceBEq, Int.reduceLT, Int.reduceLE, bin_add, bin_sub, w2, q4, q1]
      have hbl := hb.lt
      have hb2 := (hb.ext e1 (by simp)).ext e2 (by simp; omega)
      refine cpy_blk hB2 ⟨_, _, rfl, p4⟩ (hsrc2 hb2) (by rw [nmin]; split <;> omega) (by rw [nmin]; split <;> omega) fun H3 e3 z3 hB3 => ?_
      try simp only [ew, Nat.reduceAdd, Nat.reduceMul, Nat.reduceLeDiff, Int.reduceBNe, Int.reduceBEq, Int.reduceLT, Int.reduceLE, bin_add, bin_sub]
      have m1 : Nat.min 1 (i + (l.length + 1 - i) - i) = 1 := by rw [nmin]; split <;> omega
      have m2 : Nat.min (l.length - i) (i + (l.length + 1 - i) - (i + 1)) = l.length - i := by rw [nmin]; split <;> omega
      rw [m1, m2] at hB3
      have hE : Ext [b] H H3 := ((e1.thru e2 (by simp)).thru e3 (by simp)).mono (by simp)
      refine hR _ [H.size] H3 hE (by simp) (OwnL.of_blk hB3 (by simp; omega) (by simp; omega) (by simp; omega) (fin _ (fun j hj => ?_) ?_ (fun j hj hj2 => ?_)))
      · rw [if_neg (by omega), if_neg (by omega), if_pos hj]
      · rw [if_neg (by omega), if_pos (by omega)]
      · rw [if_pos (by omega)]; congr 1; omega
    · obtain ⟨o2, q2, p2⟩ := sub_mk (sz := 2) (b := b) (n := l.length) (cap := cap) (lo := none) (bound_n 0 (l.length + 1)) (bound_i (d := l.length) (hi := cap) (k := .i64) (rfl : ((l.length + 1 : Nat) : Int) = (l.length + 1 : Nat)) (by omega)) ⟨by omega, by omega⟩
      have o20 : o2 = 0 := by omega
      subst o20
      simp only [Nat.sub_zero] at q2
      obtain ⟨o3, q3, p3⟩ := sub_mk (sz := 2) (b := b) (n := l.length + 1) (cap := cap) (bound_i (d := 0) (hi := l.length + 1) (k := .i64) (rfl : ((i + 1 : Nat) : Int) = (i + 1 : Nat)) (by omega)) (bound_n (l.length + 1) (cap)) ⟨by omega, by omega⟩
      obtain ⟨o4, q4, p4⟩ := sub_mk (sz := 2) (b := b) (n := l.length + 1) (cap := cap) (bound_i (d := 0) (hi := l.length + 1) (k := .i64) (rfl : (i : Int) = (i : Nat)) (by omega)) (bound_n (l.length + 1) (cap)) ⟨by omega, by omega⟩
      simp only [z157_g51, z157_g52, z157_g53, z157_g54, z157_g55, z157_g56, z157_g57, z157_g58, z157_g59, z157_g60, z157_g61, z157_g62, z157_g63, z157_g64, z157_g65, z157_g66, z157_g67, z157_g68, z157_g69, z157_g70, z157_g71, slices_Insert_Range]
      try simp only [ew, Nat.reduceAdd, Nat.reduceMul, Nat.reduceLeDiff, Int.reduceBNe, Int.reduceBEq, Int.reduceLT, Int.reduceLE, bin_add, bin_sub, q2, w1, w2, q3]
      obtain ⟨cw, hcw, _⟩ := hwb
      obtain ⟨cb, hcb, hrb⟩ := hb
      refine z158_ev hne hcw hcb (by rw [hrb.size]; show cap * 2 ≠ 0; omega) ?_
      try simp only [ew, Nat.reduceAdd, Nat.reduceMul, Nat.reduceLeDiff, Int.reduceBNe, Int.reduceBEq, Int.reduceLT, Int.reduceLE, bin_add, bin_sub, w2, q3, q4]
      have hb : Blk 2 H b cap f := ⟨cb, hcb, hrb⟩
      have hsrc3 : Srq 2 H (.slice (some ⟨b, o4, none⟩) (l.length + 1 - i) (cap - i)) (l.length + 1 - i) (l.length - i) (fun j => f (i + j)) := Sub.src ⟨_, _, rfl, p4⟩ hb (by omega) (fun j hj => cellR _ (by omega)) (by omega)
      refine cpy_blk hb ⟨_, _, rfl, p3⟩ hsrc3 (by rw [nmin]; split <;> omega) (by rw [nmin]; split <;> omega) fun H2 e2 z2 hB2 => ?_
      try simp only [ew, Nat.reduceAdd, Nat.reduceMul, Nat.reduceLeDiff, Int.reduceBNe, Int.reduceBEq, Int.reduceLT, Int.reduceLE, bin_add, bin_sub, q4]
      refine cpy_blk hB2 ⟨_, _, rfl, p4⟩ (hsrc.ext e2 (fun b' o s n c hb' => by cases hb'; simpa using hne)) (Nat.min_le_left _ _) (by rw [nmin]; split <;> omega) fun H3 e3 z3 hB3 => ?_
      try simp only [ew, Nat.reduceAdd, Nat.reduceMul, Nat.reduceLeDiff, Int.reduceBNe, Int.reduceBEq, Int.reduceLT, Int.reduceLE]
      have m1 : Nat.min 1 (l.length + 1 - i) = 1 := by rw [nmin]; split <;> omega
      have m2 : Nat.min (l.length + 1 - i) (l.length + 1 - (i + 1)) = l.length - i := by rw [nmin]; split <;> omega
      rw [m1, m2] at hB3
      refine hR _ [b] H3 (e2.thru e3 (by simp)) (by simp) (OwnL.of_blk hB3 (by simp; omega) (by simp; omega) (by simp; omega) (fin _ (fun j hj => ?_) ?_ (fun j hj hj2 => ?_)))
      · rw [if_neg (by omega), if_neg (by omega)]
      · rw [if_pos (by omega)]
      · rw [if_neg (by omega), if_pos (by omega)]; congr 1; omega
end Go.Hc
set_option linter.unusedSimpArgs false
set_option linter.unusedVariables false
namespace Go.Hc
open Go

/-- a slice that shows one range, in a block of its own -/
theorem one_src {H : Heap} {w : Value} {T : List Nat} {x : Rng} (hw : OwnL rngE H w T [x]) : ∃ wb wc, w = .slice (some ⟨wb, 0, none⟩) 1 wc ∧ T = [wb] ∧ Src 2 H w 1 (fun _ => rngC x) := by
  obtain ⟨wb, wc, rfl⟩ : ∃ b cap, w = .slice (some ⟨b, 0, none⟩) 1 cap := by
    generalize hx : [x] = m at hw
    cases hw with
    | nil => simp at hx
    | mk => subst hx; exact ⟨_, _, rfl⟩
  obtain ⟨_, rfl, hwc, _, fw, hwb, hfw⟩ := hw.blk
  refine ⟨wb, wc, rfl, rfl, ?_⟩
  have := Sub.src (sz := 2) (b := wb) (d := 0) (n := 1) (v := .slice (some ⟨wb, 0, none⟩) 1 wc) ⟨_, _, rfl, .inl rfl⟩ hwb (by simpa using hwc) (fun i hi => by
    have : i = 0 := by omega
    subst this; rw [hfw 0 (by simp)]; exact rngE.cell _) (Nat.le_refl _)
  obtain ⟨a1, a2, a3, a4, a5⟩ := this
  refine ⟨a1, a2, a3, fun p hp => ?_, fun _ _ => rngE.cell x⟩
  obtain ⟨cs, q1, q2⟩ := a4 p hp
  exact ⟨cs, q1, q2.congr fun j hj => by
    have : j = 0 := by omega
    subst this; exact hfw 0 (by simp)⟩
theorem OwnL.whole {A : Type} {E : Enc A} {H : Heap} {v : Value} {S : List Nat} {l : List A} (h : OwnL E H v S l) : v = .slice none 0 0 ∧ l = [] ∧ S = [] ∨ ∃ b cap, v = .slice (some ⟨b, 0, none⟩) l.length cap ∧ S = [b] := by
  cases h with
  | nil => exact .inl ⟨rfl, rfl, rfl⟩
  | mk => exact .inr ⟨_, _, rfl, rfl⟩
theorem cut_list {l : List Rng} {x : Rng} {i j : Nat} {f g : Nat → Array Value} (hf : ∀ i (h : i < l.length), f i = rngE.c l[i]) (hij : i ≤ j) (hj : j ≤ l.length)
    (g1 : ∀ k, k < i → g k = f k) (g2 : g i = rngC x) (g3 : ∀ k, i + 1 ≤ k → k < i + 1 + (l.length - j) → g k = f (k - (i + 1) + j)) :
    ∀ k (hk : k < (l.take i ++ x :: l.drop j).length), g k = rngE.c ((l.take i ++ x :: l.drop j)[k]) := by
  intro k hk
  have hlen : (l.take i ++ x :: l.drop j).length = i + 1 + (l.length - j) := by simp; omega
  rw [hlen] at hk
  rcases Nat.lt_trichotomy k i with h | h | h
  · rw [List.getElem_append_left (by simp; omega), g1 k h, hf k (by omega)]; simp
  · subst h; rw [List.getElem_append_right (by simp; omega), g2]
    have e : k - (l.take k).length = 0 := by simp; omega
    simp only [e, List.getElem_cons_zero]; rfl
  · rw [List.getElem_append_right (by simp; omega), g3 k (by omega) hk, hf _ (by omega)]
    have e : k - (l.take i).length = (k - 1 - i) + 1 := by simp; omega
    simp only [e, List.getElem_cons_succ, List.getElem_drop]
    congr 2; omega

theorem Replace_ev {H : Heap} {v w : Value} {S T : List Nat} {l : List Rng} {x : Rng} {i j : Nat} {R : Value → Heap → Prop} (hv : OwnL rngE H v S l) (hw : OwnL rngE H w T [x]) (hd : ∀ b ∈ T, b ∉ S) (hij : i ≤ j) (hj : j ≤ l.length) (hs : l.length ≤ 1000000)
    (hR : ∀ v' S' H', Ext S H H' → (∀ b ∈ S', b ∈ S ∨ H.size ≤ b) → OwnL rngE H' v' S' (l.take i ++ x :: l.drop j) → R v' H') : EvF P N.slices_Replace_Range #[v, iv i, iv j, w] H R := by
  refine z117_ev _ _ _ _ _ _ ?_
  have hwl : lenV w = some (.int .i64 1) := hw.len
  have hsl : ∃ q, sliceV 2 v (some (iv i)) (some (iv j)) = some q := by
    rcases hv.whole with ⟨rfl, rfl, _⟩ | ⟨b, cap, rfl, _⟩
    · have h1 : j = 0 := by simpa using hj
      have h2 : i = 0 := by omega
      subst h1; subst h2; exact ⟨_, rfl⟩
    · obtain ⟨hn, hS, hc, hm, f, hb, hf⟩ := hv.blk
      obtain ⟨o, ho, _⟩ := sub_mk (sz := 2) (b := b) (bound_i (d := 0) (hi := j) (k := .i64) rfl hij) (bound_i (d := l.length) (hi := cap) (k := .i64) (rfl : (j : Int) = j) (by omega)) ⟨hij, by omega⟩
      exact ⟨_, ho⟩
  obtain ⟨q, hq⟩ := hsl
  by_cases heq : i = j
  · subst heq
    simp only [slices_Replace_Range, z117_g96, z117_g97, z117_g98, z117_g99]
    try simp only [ew, Nat.reduceAdd, Nat.reduceMul, Nat.reduceLeDiff, Int.reduceBNe, Int.reduceBEq, Int.reduceLT, Int.reduceLE, hq, beq_self_eq_true]
    exact Insert_ev hv hw hd hj hs hR
  · obtain ⟨b, cap, rfl, rfl⟩ : ∃ b cap, v = .slice (some ⟨b, 0, none⟩) l.length cap ∧ S = [b] := by
      rcases hv.whole with ⟨rfl, rfl, _⟩ | h
      · simp at hj; omega
      · exact h
    obtain ⟨wb, wc, rfl, rfl, hsrc⟩ := one_src hw
    obtain ⟨_, _, hc, hm, f, hb, hf⟩ := hv.blk
    have hne : wb ≠ b := by simpa using hd
    have cellR : ∀ j < l.length, (f j).all isCell = true := fun j hj => by rw [hf j hj]; exact rngE.cell _
    have h2 : ((i : Int) == (j : Int)) = false := by simp; omega
    obtain ⟨o1, q1, p1⟩ := sub_mk (sz := 2) (b := b) (n := l.length) (cap := cap) (lo := none) (bound_n 0 i) (bound_i (d := l.length) (hi := cap) (k := .i64) (rfl : (i : Int) = (i : Nat)) (by omega)) ⟨by omega, by omega⟩
    have o10 : o1 = 0 := by omega
    subst o10
    simp only [Nat.sub_zero] at q1
    have hext : ∀ {H'}, Ext [b] H H' → Src 2 H' (.slice (some ⟨wb, 0, none⟩) 1 wc) 1 (fun _ => rngC x) := fun he => hsrc.ext he (fun b' o s n c hb' => by cases hb'; simpa using hne)
    simp only [slices_Replace_Range, z117_g96, z117_g97, z117_g98, z117_g100]
    try simp only [ew, Nat.reduceAdd, Nat.reduceMul, Nat.reduceLeDiff, Int.reduceBNe, Int.reduceBEq, Int.reduceLT, Int.reduceLE, hq, h2, hv.len]
    refine brV_i (fun hjn => ?_) (fun hjn => ?_)
    · have hjn : j = l.length := by
        have h3 : (j : Int) = l.length := by simpa using hjn
        omega
      subst hjn
      simp only [z117_g101]
      try simp only [ew, Nat.reduceAdd, Nat.reduceMul, Nat.reduceLeDiff, Int.reduceBNe, Int.reduceBEq, Int.reduceLT, Int.reduceLE, q1]
      refine app_blk (sz := 2) hb hsrc (by omega) fun H1 e1 z1 hB1 => ?_
      have fin : ∀ g : Nat → Array Value, (∀ k, k ≤ i → g k = if i ≤ k ∧ k < i + 1 then rngC x else f k) → ∀ k (hk : k < (l.take i ++ x :: l.drop l.length).length), g k = rngE.c ((l.take i ++ x :: l.drop l.length)[k]) := fun g hg =>
        cut_list hf hij hj (fun k hk => by rw [hg k (by omega), if_neg (by omega)]) (by rw [hg i (by omega), if_pos (by omega)]) (fun k h1 h2 => by omega)
      simp only [z117_g106, z117_g107, z117_s102, z117_g103]
      try simp only [ew, Nat.reduceAdd, Nat.reduceMul, Nat.reduceLeDiff, Int.reduceBNe, Int.reduceBEq, Int.reduceLT, Int.reduceLE]
      refine brV_d (fun hlt => ?_) (fun hlt => ?_)
      · have hlt : i + 1 < l.length := by omega
        obtain ⟨o2, q2, p2⟩ := sub_mk (sz := 2) (b := b) (n := l.length) (cap := cap) (bound_i (d := 0) (hi := l.length) (k := .i64) (rfl : ((i + 1 : Nat) : Int) = (i + 1 : Nat)) (by omega)) (bound_n l.length cap) ⟨by omega, by omega⟩
        try simp only [ew, Nat.reduceAdd, Nat.reduceMul, Nat.reduceLeDiff, Int.reduceBNe, Int.reduceBEq, Int.reduceLT, Int.reduceLE, q2]
        refine clr_blk (sz := 2) rngZ hB1 ⟨_, _, rfl, p2⟩ (by omega) fun H2 e2 z2 hB2 => ?_
        refine hR _ [b] H2 (e1.trans e2) (by simp) (OwnL.of_blk hB2 (by simp; omega) (by simp; omega) (by simp; omega) (fin _ fun k hk => ?_))
        rw [if_neg (by omega)]
      · refine hR _ [b] H1 e1 (by simp) (OwnL.of_blk hB1 (by simp; omega) (by simp; omega) (by simp; omega) (fin _ fun k hk => rfl))
    · have hjn : j < l.length := by have : (j : Int) ≠ l.length := by simpa using hjn
                                    omega
      have w1 : IntKind.i64.wrap ((i : Int) + 1) = ((i + 1 : Nat) : Int) := by rw [wrap_in (by omega)]; omega
      have w2 : IntKind.i64.wrap (((i + 1 : Nat) : Int) + ((l.length - j : Nat) : Int)) = ((i + 1 + (l.length - j) : Nat) : Int) := by rw [wrap_in (by omega)]; omega
      obtain ⟨o2, q2, p2⟩ := sub_mk (sz := 2) (b := b) (n := l.length) (cap := cap) (bound_i (d := 0) (hi := l.length) (k := .i64) (rfl : (j : Int) = (j : Nat)) hj) (bound_n l.length cap) ⟨by omega, by omega⟩
      obtain ⟨o3, q3, p3⟩ := sub_mk (sz := 2) (b := b) (n := l.length) (cap := cap) (lo := none) (bound_n 0 (i + 1 + (l.length - j))) (bound_i (d := l.length) (hi := cap) (k := .i64) (rfl : ((i + 1 + (l.length - j) : Nat) : Int) = (i + 1 + (l.length - j) : Nat)) (by omega)) ⟨by omega, by omega⟩
      have o30 : o3 = 0 := by omega
      subst o30
      simp only [Nat.sub_zero] at q3
      simp only [z117_g108, z117_g109, z117_g114, z117_g115, z117_g116, z117_g117, z117_g118, z117_g119]
      try simp only [ew, Nat.reduceAdd, Nat.reduceMul, Nat.reduceLeDiff, Int.reduceBNe, Int.reduceBEq, Int.reduceLT, Int.reduceLE, bin_add, q1, hwl, w1, q2, w2]
      refine brV_d (fun hbig => ?_) (fun _ => ?_)
      · omega
      try simp only [ew, Nat.reduceAdd, Nat.reduceMul, Nat.reduceLeDiff, Int.reduceBNe, Int.reduceBEq, Int.reduceLT, Int.reduceLE, bin_add, q3, hwl, w1]
      refine brV_d (fun _ => ?_) (fun hno => ?_)
      case refine_2 => omega
      obtain ⟨o4, q4, p4⟩ := sub_mk (sz := 2) (b := b) (n := i + 1 + (l.length - j)) (cap := cap) (bound_i (d := 0) (hi := i + 1 + (l.length - j)) (k := .i64) (rfl : (i : Int) = (i : Nat)) (by omega)) (bound_n (i + 1 + (l.length - j)) cap) ⟨by omega, by omega⟩
      obtain ⟨o5, q5, p5⟩ := sub_mk (sz := 2) (b := b) (n := i + 1 + (l.length - j)) (cap := cap) (bound_i (d := 0) (hi := i + 1 + (l.length - j)) (k := .i64) (rfl : ((i + 1 : Nat) : Int) = (i + 1 : Nat)) (by omega)) (bound_n (i + 1 + (l.length - j)) cap) ⟨by omega, by omega⟩
      obtain ⟨o6, q6, p6⟩ := sub_mk (sz := 2) (b := b) (n := l.length) (cap := cap) (bound_i (d := 0) (hi := l.length) (k := .i64) (rfl : ((i + 1 + (l.length - j) : Nat) : Int) = (i + 1 + (l.length - j) : Nat)) (by omega)) (bound_n l.length cap) ⟨by omega, by omega⟩
      try simp only [ew, Nat.reduceAdd, Nat.reduceMul, Nat.reduceLeDiff, Int.reduceBNe, Int.reduceBEq, Int.reduceLT, Int.reduceLE, q4]
      have m1 : Nat.min 1 (i + 1 + (l.length - j) - i) = 1 := by rw [nmin]; split <;> omega
      have m2 : Nat.min (l.length - j) (i + 1 + (l.length - j) - (i + 1)) = l.length - j := by rw [nmin]; split <;> omega
      refine cpy_blk hb ⟨_, _, rfl, p4⟩ hsrc (Nat.min_le_left _ _) (by rw [m1]; omega) fun H1 e1 z1 hB1 => ?_
      rw [m1] at hB1
      try simp only [ew, Nat.reduceAdd, Nat.reduceMul, Nat.reduceLeDiff, Int.reduceBNe, Int.reduceBEq, Int.reduceLT, Int.reduceLE, bin_add, hwl, w1, q5, q2]
      have hsrc2 := Sub.src (H := H1) (q := l.length - j) (v := .slice (some ⟨b, o2, none⟩) (l.length - j) (cap - j)) ⟨_, _, rfl, p2⟩ hB1 (by omega) (fun k hk => by rw [if_neg (by omega)]; exact cellR _ (by omega)) (Nat.le_refl _)
      refine cpy_blk hB1 ⟨_, _, rfl, p5⟩ hsrc2 (by rw [m2]; exact Nat.le_refl _) (by rw [m2]; omega) fun H2 e2 z2 hB2 => ?_
      rw [m2] at hB2
      try simp only [ew, Nat.reduceAdd, Nat.reduceMul, Nat.reduceLeDiff, Int.reduceBNe, Int.reduceBEq, Int.reduceLT, Int.reduceLE, q6]
      refine clr_blk (sz := 2) rngZ hB2 ⟨_, _, rfl, p6⟩ (by omega) fun H3 e3 z3 hB3 => ?_
      refine hR _ [b] H3 ((e1.trans e2).trans e3) (by simp) (OwnL.of_blk hB3 (by simp; omega) (by simp; omega) (by simp; omega) (cut_list hf hij hj (fun k hk => ?_) ?_ (fun k h1 h2 => ?_)))
      · rw [if_neg (by omega), if_neg (by omega), if_neg (by omega)]
      · rw [if_neg (by omega), if_neg (by omega), if_pos (by omega)]
      · rw [if_neg (by omega), if_pos (by omega), if_neg (by omega)]; congr 1; omega

theorem Delete_ev {H : Heap} {v : Value} {S : List Nat} {l : List Rng} {j : Nat} {R : Value → Heap → Prop} (hv : OwnL rngE H v S l) (hj : j ≤ l.length) (hs : l.length ≤ 1000000)
    (hR : ∀ v' H', Ext S H H' → OwnL rngE H' v' S (l.drop j) → R v' H') : EvF P N.slices_Delete_Range #[v, iv 0, iv j] H R := by
  refine z153_ev _ _ _ _ _ ?_
  have hsl : ∃ q, sliceV3 2 v (some (iv 0)) (iv j) (iv l.length) = some q := by
    rcases hv.whole with ⟨rfl, rfl, _⟩ | ⟨b, cap, rfl, _⟩
    · have h1 : j = 0 := by simpa using hj
      subst h1; exact ⟨_, rfl⟩
    · obtain ⟨hn, hS, hc, hm, f, hb, hf⟩ := hv.blk
      simp only [sliceV3, bound_i (d := cap) (hi := cap) (k := .i64) (rfl : (l.length : Int) = l.length) hc, bound_i (d := l.length) (hi := l.length) (k := .i64) (rfl : (j : Int) = j) hj, bound_i (d := 0) (hi := j) (k := .i64) (rfl : ((0 : Nat) : Int) = (0 : Nat)) (Nat.zero_le _)]
      exact ⟨_, rfl⟩
  obtain ⟨q, hq⟩ := hsl
  by_cases heq : j = 0
  · subst heq
    have h0 : ((0 : Int) == ((0 : Nat) : Int)) = true := rfl
    simp only [slices_Delete_Range, z153_g19, z153_g20, z153_g21, z153_g22]
    try simp only [ew, Nat.reduceAdd, Nat.reduceMul, Nat.reduceLeDiff, Int.reduceBNe, Int.reduceBEq, Int.reduceLT, Int.reduceLE, hv.len, hq, h0]
    exact hR v H (Ext.refl _ _) (by simpa using hv)
  · obtain ⟨b, cap, rfl, rfl⟩ : ∃ b cap, v = .slice (some ⟨b, 0, none⟩) l.length cap ∧ S = [b] := by
      rcases hv.whole with ⟨rfl, rfl, _⟩ | h
      · simp at hj; omega
      · exact h
    obtain ⟨_, _, hc, hm, f, hb, hf⟩ := hv.blk
    have cellR : ∀ j < l.length, (f j).all isCell = true := fun j hj => by rw [hf j hj]; exact rngE.cell _
    have h2 : ((0 : Int) == (j : Int)) = false := by simp; omega
    obtain ⟨o1, q1, p1⟩ := sub_mk (sz := 2) (b := b) (n := l.length) (cap := cap) (lo := none) (bound_n 0 0) (bound_i (d := l.length) (hi := cap) (k := .i64) (rfl : ((0 : Nat) : Int) = (0 : Nat)) (by omega)) ⟨by omega, by omega⟩
    have o10 : o1 = 0 := by omega
    subst o10
    simp only [Nat.sub_zero] at q1
    obtain ⟨o2, q2, p2⟩ := sub_mk (sz := 2) (b := b) (n := l.length) (cap := cap) (bound_i (d := 0) (hi := l.length) (k := .i64) (rfl : (j : Int) = (j : Nat)) hj) (bound_n l.length cap) ⟨by omega, by omega⟩
    have q1' : sliceV 2 (.slice (some ⟨b, 0, none⟩) l.length cap) none (some (iv 0)) = _ := q1
    simp only [z153_g19, z153_g20, z153_g21, z153_g22, z153_g23, z153_g24, z153_g25, z153_g26, slices_Delete_Range]
    try simp only [ew, Nat.reduceAdd, Nat.reduceMul, Nat.reduceLeDiff, Int.reduceBNe, Int.reduceBEq, Int.reduceLT, Int.reduceLE, hv.len, hq, h2, q1', q2]
    have hsrc := Sub.src (H := H) (q := l.length - j) (v := .slice (some ⟨b, o2, none⟩) (l.length - j) (cap - j)) ⟨_, _, rfl, p2⟩ hb (by omega) (fun k hk => cellR _ (by omega)) (Nat.le_refl _)
    refine app_blk (sz := 2) (n := 0) (m := l.length - j) hb hsrc (by omega) fun H1 e1 z1 hB1 => ?_
    simp only [Nat.zero_add] at hB1
    obtain ⟨o3, q3, p3⟩ := sub_mk (sz := 2) (b := b) (n := l.length - j) (cap := cap) (bound_i (d := 0) (hi := l.length) (k := .i64) (rfl : ((l.length - j : Nat) : Int) = (l.length - j : Nat)) (by omega)) (bound_i (d := l.length - j) (hi := cap) (k := .i64) (rfl : (l.length : Int) = (l.length : Nat)) hc) ⟨by omega, by omega⟩
    try simp only [ew, Nat.reduceAdd, Nat.reduceMul, Nat.reduceLeDiff, Int.reduceBNe, Int.reduceBEq, Int.reduceLT, Int.reduceLE, q3]
    refine clr_blk (sz := 2) rngZ hB1 ⟨_, _, rfl, p3⟩ (by omega) fun H2 e2 z2 hB2 => ?_
    refine hR _ H2 (e1.trans e2) (OwnL.of_blk hB2 (by simp) (by simp; omega) (by simp; omega) (fun k hk => ?_))
    simp only [List.length_drop] at hk
    rw [if_neg (by omega), if_pos (by omega), hf _ (by omega)]
    simp
end Go.Hc
set_option linter.unusedSimpArgs false
set_option linter.unusedVariables false
namespace Go.Hc
open Go

theorem rng_beq {a b : Rng} : binV (.agg [true, true]) .neq (.agg (rngC a)) (.agg (rngC b)) = some (.bool (!(decide (a = b)))) := by
  have : decide (a = b) = ((a.1 == b.1) && (a.2 == b.2)) := by
    rw [Bool.eq_iff_iff]; simp [Prod.ext_iff]
  simp only [binV, eqV, notO, rngC, cellsEq, cellEq, this, if_true, Bool.and_true]
theorem Clone_ev {H : Heap} {v : Value} {S : List Nat} {l : List Rng} {R : Value → Heap → Prop} (hv : OwnL rngE H v S l) (hs : l.length ≤ 1000000)
    (hR : ∀ v' S' H', Ext [] H H' → (∀ b ∈ S', H.size ≤ b) → OwnL rngE H' v' S' l → R v' H') : EvF P N.slices_Clone_Range #[v] H R := by
  refine z132_ev _ _ _ ?_
  rcases hv.whole with ⟨rfl, rfl, rfl⟩ | ⟨b, cap, rfl, rfl⟩
  · simp only [z132_g11, z132_g12, z132_g13, z132_g14, slices_Clone_Range, ew, Nat.reduceAdd, Nat.reduceMul, Nat.reduceLeDiff, Int.reduceBNe, Int.reduceBEq, Int.reduceLT, Int.reduceLE, Option.isNone_none]
    exact hR _ [] H (Ext.refl _ _) (by simp) .nil
  · simp only [z132_g11, z132_g12, z132_g13, z132_g14, slices_Clone_Range, ew, Nat.reduceAdd, Nat.reduceMul, Nat.reduceLeDiff, Int.reduceBNe, Int.reduceBEq, Int.reduceLT, Int.reduceLE]
    refine ⟨by decide, ?_⟩
    have e0 : fillA (every 2) (repZ #[.int .i64 0, .int .i64 0] 0) [] = some #[] := rfl
    rw [e0, bnd_some]
    have e1 : ∀ t, Ext [] H (newB H t #[]) := fun t => (Ext.refl _ _).newB t _
    have ho : ∀ t, OwnL rngE (newB H t #[]) (.slice (some ⟨H.size, 0, none⟩) ([] : List Rng).length 0) [H.size] [] := fun t => .mk (f := fun _ => #[]) own_newB_self ⟨by simp, fun i hi => by omega, fun i hi => by omega⟩ (by simp) (by simp) (by simp)
    refine appE_l (E := rngE) (ho _) (hv.show.ext (e1 _) (by simp)) (by simp; omega) (by decide) (by simp; omega) fun v' S' H' he hS' ho' => ?_
    refine hR v' S' H' ((e1 _).thru he (by simp)) (fun b hb => ?_) (by simpa using ho')
    rcases hS' b hb with h | h
    · simp at h; omega
    · rw [size_newB] at h; omega

/-- AppendSeq, from nothing on: the list. -/
theorem AppendSeq_ev {H : Heap} {seq : Value} {l : List Rng} {R : Value → Heap → Prop} {U : List Nat} (hy : Yields P seq H U l (fun x => [.agg (rngC x)])) (hU : ∀ b ∈ U, b < H.size) (hs : l.length ≤ 1000000)
    (hR : ∀ v' S' H', Ext [] H H' → (∀ b ∈ S', H.size ≤ b) → OwnL rngE H' v' S' l → R v' H') : EvF P N.slices_AppendSeq_Range #[.slice none 0 0, seq] H R := by
  refine z172_ev _ _ _ _ ?_
  simp only [z172_g13, z172_g14, z172_g19, slices_AppendSeq_Range]
  try simp only [ew, Nat.reduceAdd, Nat.reduceMul, Nat.reduceLeDiff, Int.reduceBNe, Int.reduceBEq, Int.reduceLT, Int.reduceLE]
  intro fn fr hfr hx2
  have e0 : ∀ t, Ext [] H (newB H t #[.slice none 0 0]) := fun t => (Ext.refl _ _).newB t _
  refine callL_mono (fun _ H2 h => ?_) (hy _ _ (fun k K => Ext [] H K ∧ K.arr[H.size + 1 + 1]? = some (.loop (z172_L fn fr (H.size + 1))) ∧ K.arr[H.size + 1]? = some (.deferred (some [])) ∧
      ∃ v T, own K H.size = some #[v] ∧ OwnL rngE K v T (l.take k) ∧ ∀ t ∈ T, H.size < t) ?_ (fun k K h b hb => h.1.same b (hU b hb) (by simp)) (fun k hk K h => ?_))
  · obtain ⟨he, h1, h2, v, T, h3, h4, h5⟩ := h
    have hne1 : H.size ≠ H.size + 1 + 1 := by omega
    have hne2 : H.size + 1 ≠ H.size + 1 + 1 := by omega
    refine ⟨h1, ?_⟩
    have e1 : Ext [] H (setO H2 (H.size + 1 + 1) (.loop (done (z172_L fn fr (H.size + 1))))) := he.setO _ _ (Or.inr (by omega))
    have e2 := e1.setO (H.size + 1) (.deferred none) (Or.inr (by omega))
    simp only [ldE_f, blk_setO_ne hne1, own_blk h3, ew, Nat.reduceAdd, Nat.reduceMul, Nat.reduceLeDiff, Int.reduceBNe, Int.reduceBEq, Int.reduceLT, Int.reduceLE]
    refine ⟨by rw [arr_setO_ne hne2]; exact h2, hR v T _ e2 (fun b hb => by have := h5 b hb; omega) ?_⟩
    rw [List.take_length] at h4
    have p1 : ∀ b ∈ T, b ≠ H.size + 1 + 1 ∧ b ≠ H.size + 1 := fun b hb => by
      obtain ⟨c, hc⟩ := h4.has b hb
      exact ⟨own_ne hc h1, own_ned hc h2⟩
    have h6 := h4.ext ((Ext.refl [H.size + 1 + 1] H2).setO (H.size + 1 + 1) (.loop (done (z172_L fn fr (H.size + 1)))) (Or.inl (by simp))) (fun b hb => by simp; exact (p1 b hb).1)
    exact h6.ext ((Ext.refl [H.size + 1] _).setO (H.size + 1) (.deferred none) (Or.inl (by simp))) (fun b hb => by simp; exact (p1 b hb).2)
  · refine ⟨((e0 _).pushO _).pushO _, ?_, ?_, .slice none 0 0, [], ?_, .nil, by simp⟩
    · exact arr_pushO_at (by rw [size_pushO, size_newB])
    · exact ((Ext.refl [] _).pushO _).arr (arr_pushO_at (by rw [size_newB])) (by simp)
    · exact (((Ext.refl [] _).pushO _).pushO _).own own_newB_self (by simp)
  · obtain ⟨he, h1, h2, v, T, h3, h4, h5⟩ := h
    refine callV_y (z172_y fn _ fr hfr _ _ K _ h1 ?_)
    rw [hx2]
    have hK := he.size
    have hlp := arr_lt h1
    have n1 : H.size ≠ K.size := by have := own_lt h3; omega
    have n2 : K.size ≠ H.size + 1 + 1 := by omega
    have n3 : H.size ≠ H.size + 1 + 1 := by omega
    have hl2 : (List.take k l).length = k := by rw [List.length_take]; omega
    have hloc : splice #[Value.int .i64 0, Value.int .i64 0] 0 (rngC l[k]).toList = rngC l[k] := rfl
    have hz : (rngC l[k]).size = 2 := rfl
    have hz2 : (rngC l[k]).toList.length = 2 := rfl
    have hz3 : (rngC l[k]).toList.all isCell = true := by simp [rngC, isCell]
    have hz4 : (#[Value.int .i64 0, Value.int .i64 0] : Array Value).size = 2 := rfl
    have hz5 : getC (rngC l[k]) 0 2 = some (rngC l[k]) := rfl
    simp only [z172_r, z172_g18, z172_s15, z172_g16]
    try simp only [bnd_some, brV_t, brV_f, brG_t, brG_f, newE_u, pickE_t, pickE_f, nilV_p, faV_p, ldE_f, ldE_t, rdA_u, stE_p, cells_int, cells_bool, cells_ptr, cells_slice, cells_func, cells_agg, bin_add, bin_sub, bin_mul, bin_eql, bin_neq, bin_lss, bin_leq, bin_gtr, bin_geq, bin_eqlb, bin_neqb, bin_eqlp, bin_eqlp0, bin_neqp, bin_neqp0, bin_eqls, bin_eqls0, un_not, un_neg, len_s, cap_s, ex_t, cv_i, callV_f, Option.bind_some, Option.map_some, Nat.zero_add, Nat.add_zero, Nat.reduceAdd, Nat.reduceMul, size_newB, size_setB, blk_newB_self, own_newB_self, wrA_b, own_setB_m, blk_setB_m, setB_setB, List.getElem?_toArray, List.getElem?_cons_zero, List.getElem?_cons_succ, List.length_cons, List.length_nil, List.all_cons, List.all_nil, isCell_int, isCell_bool, isCell_ptr, isCell_slice, isCell_func, Bool.and_true, Bool.and_self, and_self, if_true, List.size_toArray, and_true, true_and, Nat.reduceLeDiff, Nat.le_refl, Bool.not_true, Bool.not_false, Bool.true_and, Bool.false_and, Bool.and_false, Int.reduceBNe, Int.reduceBEq, Int.reduceLT, Int.reduceLE, decide_true, decide_false, hloc, hz, hz2, hz3, hz4, hz5, blk_setO_ne n2, blk_setO_ne n3, blk_newB_ne n1, own_newB_ne n1, blk_setB_ne n1, own_blk h3]
    have hd1 := arr_lt h2
    have en : ∀ t c c', Ext [] K (setB (newB K t c) K.size c') := fun t c c' => ((Ext.refl _ _).newB t c).setB _ _ (Or.inr (Nat.le_refl _))
    refine ⟨(en _ _ _).arr h1 (by simp), ?_⟩
    have e2 : ∀ t c c' o, Ext [H.size + 1 + 1] K (setO (setB (newB K t c) K.size c') (H.size + 1 + 1) o) := fun t c c' o => ((en t c c').mono (by simp)).setO _ _ (Or.inl (by simp))
    have hT : ∀ b ∈ T, b ≠ H.size + 1 + 1 ∧ b ≠ H.size + 1 := fun b hb => by
      obtain ⟨c, hc⟩ := h4.has b hb
      exact ⟨own_ne hc h1, own_ned hc h2⟩
    have hlp2 : ∀ t c c' o, (setO (setB (newB K t c) K.size c') (H.size + 1 + 1) o).arr[H.size + 1 + 1]? = some o := fun t c c' o => arr_setO_self (by rw [size_setB, size_newB]; omega)
    refine bslE_1 (E := rngE) (a := l[k]) rfl (fun H4 z4 e4 o4 => ?_) (by decide)
    have e24 := (e2 _ _ _ _).thru e4 (by simp)
    have o5 := h4.ext e24 (fun b hb => by simp; exact (hT b hb).1)
    refine appE_l (E := rngE) o5 o4.show (by simp; omega) (by decide) (by simp; omega) fun v' S' H5 e5 hS' o6 => ?_
    have hlt := own_lt h3
    have hszz : ∀ t c c' o, (setO (setB (newB K t c) K.size c') (H.size + 1 + 1) o).size = K.size + 1 := fun t c c' o => by rw [size_setO, size_setB, size_newB]
    have o3 : own H5 H.size = some #[v] := e5.own (e24.own h3 (by simp; omega)) (fun hm => by have := h5 _ hm; omega)
    have hS2 : ∀ b ∈ S', H.size < b ∧ b ≠ H.size + 1 + 1 := fun b hb => by
      rcases hS' b hb with h | h
      · exact ⟨h5 b h, (hT b h).1⟩
      · rw [z4, hszz] at h; omega
    have hs1 : H.size ∉ S' := fun hm => by have := hS2 _ hm; omega
    obtain ⟨c1, c2⟩ := o6.cell
    rw [c1, o3]
    have hlpT : H.size + 1 + 1 ∉ T := fun hm => (hT _ hm).1 rfl
    have h5T : H.size + 1 ∉ T := fun hm => (hT _ hm).2 rfl
    have a1 : H5.arr[H.size + 1 + 1]? = some (.loop (busy (z172_L fn fr (H.size + 1)))) := e5.arr (e4.arr (hlp2 _ _ _ _) (by simp)) hlpT
    have a2 : H5.arr[H.size + 1]? = some (.deferred (some [])) := e5.arr (e24.arr h2 (by simp)) h5T
    try simp only [ew, Nat.reduceAdd, Nat.reduceMul, Nat.reduceLeDiff, Int.reduceBNe, Int.reduceBEq, Int.reduceLT, Int.reduceLE, c2, List.length_singleton]
    refine ⟨((Ext.refl [H.size] H5).setB H.size _ (Or.inl (by simp))).arr a1 (by simp; omega), ?_, arr_setO_self (by rw [size_setB]; exact arr_lt a1), ?_, v', S', ?_, ?_, fun b hb => (hS2 b hb).1⟩
    · exact ((((he.thru e24 (by simp; omega)).thru e5 (fun b hb => Or.inr (by have := h5 b hb; omega)))).setB H.size _ (Or.inr (Nat.le_refl _))).setO _ _ (Or.inr (by omega))
    · rw [arr_setO_ne (by omega)]
      exact ((Ext.refl [H.size] H5).setB H.size _ (Or.inl (by simp))).arr a2 (by simp)
    · rw [own_setO_ne n3, own_setB_same o3]; rfl
    · have q1 := o6.ext ((Ext.refl [H.size] H5).setB H.size (splice #[v] 0 [v']) (Or.inl (by simp))) (fun b hb => by simp; exact fun e => hs1 (e ▸ hb))
      have q2 := q1.ext ((Ext.refl [H.size + 1 + 1] _).setO (H.size + 1 + 1) (.loop (z172_L fn fr (H.size + 1))) (Or.inl (by simp))) (fun b hb => by simp; exact (hS2 b hb).2)
      have : List.take (k + 1) l = List.take k l ++ [l[k]] := by rw [List.take_add_one, List.getElem?_eq_getElem hk]; rfl
      rw [this]; exact q2
theorem Collect_ev {H : Heap} {seq : Value} {l : List Rng} {R : Value → Heap → Prop} {U : List Nat} (hy : Yields P seq H U l (fun x => [.agg (rngC x)])) (hU : ∀ b ∈ U, b < H.size) (hs : l.length ≤ 1000000)
    (hR : ∀ v' S' H', Ext [] H H' → (∀ b ∈ S', H.size ≤ b) → OwnL rngE H' v' S' l → R v' H') : EvF P N.slices_Collect_Range #[seq] H R := by
  refine z151_ev _ _ _ ?_
  simp only [z151_g5, z151_g6, slices_Collect_Range]
  exact AppendSeq_ev hy hU hs hR
end Go.Hc

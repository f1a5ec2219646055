/- Small words; search. -/
import Derived.Test.YtbchcnmghcmaoaaHcT
import Derived.Test.YtbchcnmghcmaoaaHcO
import Derived.Test.YtbchcnmghcmaoaaF0
import Derived.Test.YtbchcnmghcmaoaaF1
import Derived.Test.YtbchcnmghcmaoaaF2
import Derived.Test.YtbchcnmghcmaoaaF3
import Derived.Test.YtbchcnmghcmaoaaF4
import Derived.Test.YtbchcnmghcmaoaaF5
import Derived.Test.YtbchcnmghcmaoaaF6
set_option linter.unusedSimpArgs false
set_option linter.unusedVariables false
namespace Go.Hc
open Go

abbrev iv (n : Int) : Value := .int .i64 n
abbrev ptr (b : Nat) : Value := .pointer (some ⟨b, 0, none⟩)
/-- Search over places of which a rising row of answers is told, by a function that changes nothing. -/
theorem Search_ev {n : Nat} {f : Value} {g : Nat → Bool} {H : Heap} {R : Value → Heap → Prop} (hn : (n : Int) ≤ 1000000000)
    (hf : ∀ i < n, ∀ Q : Value → Heap → Prop, Q (.bool (g i)) H → callV P f [iv i] H Q)
    (hg : ∀ i j, i ≤ j → j < n → g i = true → g j = true)
    (hR : ∀ k, k ≤ n → (∀ i < k, g i = false) → (∀ i, k ≤ i → i < n → g i = true) → R (iv k) H) :
    EvF P N.sort_Search #[iv n, f] H R := by
  refine z36_ev _ _ _ _ ?_
  simp only [z36_g23, z36_g24, z36_g26, z36_g27, z36_g28, z36_g29, z36_g30, z36_g31, z36_s25, z36_l36, sort_Search]
  refine ⟨fun v w H' => H' = H ∧ ∃ i j : Nat, v = iv i ∧ w = iv j ∧ i ≤ j ∧ j ≤ n ∧ (∀ k < i, g k = false) ∧ (∀ k, j ≤ k → k < n → g k = true),
    fun v w _ => (match v, w with | .int _ i, .int _ j => (j - i).toNat | _, _ => 0), ⟨rfl, 0, n, rfl, rfl, Nat.zero_le _, Nat.le_refl _, by omega, by omega⟩, ?_⟩
  rintro v w H' ⟨rfl, i, j, rfl, rfl, hij, hj, hi1, hj1⟩
  have w1 : IntKind.i64.wrap ((i : Int) + j) = (i : Int) + j := wrap_in (by omega)
  have w2 : IntKind.u64.wrap ((i : Int) + j) = (i : Int) + j := by unfold IntKind.wrap; simp [IntKind.signed, IntKind.bits]; omega
  have w3 : binV .int .shr (.int .u64 ((i : Int) + j)) (.int .u64 1) = some (.int .u64 ((i + j) / 2 : Nat)) := by
    simp only [binV, shV, IntKind.bits]
    rw [if_neg (by omega), Int.fdiv_eq_ediv_of_nonneg _ (by decide)]
    congr 2
  have w4 : IntKind.i64.wrap (((i + j) / 2 : Nat) : Int) = (((i + j) / 2 : Nat) : Int) := wrap_in (by omega)
  have w5 : IntKind.i64.wrap ((((i + j) / 2 : Nat) : Int) + 1) = (((i + j) / 2 + 1 : Nat) : Int) := by rw [wrap_in (by omega)]; omega
  try simp only [bnd_some, brV_t, brV_f, brG_t, brG_f, newE_u, pickE_t, pickE_f, nilV_p, faV_p, ldE_f, ldE_t, rdA_u, stE_p, cells_int, cells_bool, cells_ptr, cells_slice, cells_func, cells_agg, bin_add, bin_sub, bin_mul, bin_eql, bin_neq, bin_lss, bin_leq, bin_gtr, bin_geq, bin_eqlb, bin_neqb, bin_eqlp, bin_eqlp0, bin_neqp, bin_neqp0, bin_eqls, bin_eqls0, un_not, un_neg, len_s, cap_s, ex_t, cv_i, callV_f, Option.bind_some, Option.map_some, Nat.zero_add, Nat.add_zero, Nat.reduceAdd, Nat.reduceMul, size_newB, size_setB, blk_newB_self, own_newB_self, wrA_b, own_setB_m, blk_setB_m, setB_setB, List.getElem?_toArray, List.getElem?_cons_zero, List.getElem?_cons_succ, List.length_cons, List.length_nil, List.all_cons, List.all_nil, isCell_int, isCell_bool, isCell_ptr, isCell_slice, isCell_func, Bool.and_true, Bool.and_self, and_self, if_true, List.size_toArray, and_true, true_and, Nat.reduceLeDiff, Nat.le_refl, Bool.not_true, Bool.not_false, Bool.true_and, Bool.false_and, Bool.and_false, Int.reduceBNe, Int.reduceBEq, Int.reduceLT, Int.reduceLE, decide_true, decide_false, w1, w2, w3, w4, w5]
  refine brV_d (fun h => ?_) (fun h => ?_)
  · have hlt : i < j := by omega
    refine hf _ (by omega) _ ?_
    try simp only [bnd_some, brV_t, brV_f, brG_t, brG_f, newE_u, pickE_t, pickE_f, nilV_p, faV_p, ldE_f, ldE_t, rdA_u, stE_p, cells_int, cells_bool, cells_ptr, cells_slice, cells_func, cells_agg, bin_add, bin_sub, bin_mul, bin_eql, bin_neq, bin_lss, bin_leq, bin_gtr, bin_geq, bin_eqlb, bin_neqb, bin_eqlp, bin_eqlp0, bin_neqp, bin_neqp0, bin_eqls, bin_eqls0, un_not, un_neg, len_s, cap_s, ex_t, cv_i, callV_f, Option.bind_some, Option.map_some, Nat.zero_add, Nat.add_zero, Nat.reduceAdd, Nat.reduceMul, size_newB, size_setB, blk_newB_self, own_newB_self, wrA_b, own_setB_m, blk_setB_m, setB_setB, List.getElem?_toArray, List.getElem?_cons_zero, List.getElem?_cons_succ, List.length_cons, List.length_nil, List.all_cons, List.all_nil, isCell_int, isCell_bool, isCell_ptr, isCell_slice, isCell_func, Bool.and_true, Bool.and_self, and_self, if_true, List.size_toArray, and_true, true_and, Nat.reduceLeDiff, Nat.le_refl, Bool.not_true, Bool.not_false, Bool.true_and, Bool.false_and, Bool.and_false, Int.reduceBNe, Int.reduceBEq, Int.reduceLT, Int.reduceLE, decide_true, decide_false]
    refine brV_i (fun hb => ?_) (fun hb => ?_)
    · refine ⟨⟨(i + j) / 2 + 1, j, rfl, rfl, by omega, hj, fun k hk => ?_, hj1⟩, by omega⟩
      cases hgk : g k with
      | false => rfl
      | true => have := hg k ((i + j) / 2) (by omega) (by omega) hgk
                simp [this] at hb
    · refine ⟨⟨i, (i + j) / 2, rfl, rfl, by omega, by omega, hi1, fun k hk hkn => ?_⟩, by omega⟩
      exact hg _ k hk hkn (by simpa using hb)
  · have : i = j := by omega
    subst this
    exact hR i hj hi1 hj1
def bring (i n : Int) : Int := i % n
theorem bring_r {i n : Int} (hn : 0 < n) : 0 ≤ bring i n ∧ bring i n < n := ⟨Int.emod_nonneg i (by omega), Int.emod_lt_of_pos i hn⟩
end Go.Hc

/- SpanSets: a set has just what was added, and not cut. -/
import Derived.Test.YtecomjpmajbpgaaS04Touch
import Derived.Test.YtecomjpmajbpgaaS04M
set_option linter.unusedSimpArgs false
set_option linter.unusedVariables false
namespace Go.Hc
open Go

/-- an array of 101 marks -/
def bitC (f : Nat → Bool) : Array Value := ((List.range 101).map fun n => iv (ind (f n))).toArray
theorem bitC_s {f : Nat → Bool} : (bitC f).size = 101 := by simp [bitC]
theorem bitC_at {f : Nat → Bool} {n : Nat} (h : n < 101) : (bitC f)[n]? = some (iv (ind (f n))) := by simp [bitC, h]
theorem bitC_set {f g : Nat → Bool} {n : Nat} {b : Bool} (h : ∀ m, g m = if m = n then b else f m) (hn : n < 101) : splice (bitC f) n [iv (ind b)] = bitC g := by
  apply Array.ext_getElem?; intro i
  rw [getElem?_splice _ _ _ (by rw [bitC_s]; simp; omega)]
  by_cases hi : i = n
  · subst hi
    rw [if_pos (by simp), bitC_at hn, h i, if_pos rfl]; simp
  · rw [if_neg (by simp; omega)]
    by_cases h2 : i < 101
    · rw [bitC_at h2, bitC_at h2, h i, if_neg hi]
    · rw [Array.getElem?_eq_none (by rw [bitC_s]; omega), Array.getElem?_eq_none (by rw [bitC_s]; omega)]
theorem bitC_cell {f : Nat → Bool} : (bitC f).toList.all isCell = true := by
  rw [List.all_eq_true]; intro x hx
  simp only [bitC, List.mem_map] at hx
  obtain ⟨n, _, rfl⟩ := hx; rfl
theorem bitC_g {f : Nat → Bool} : getC (bitC f) 0 101 = some (bitC f) := getC_all bitC_s
theorem zeros_bit : zeros 101 = bitC (fun _ => false) := by
  have : (List.range 101).map (fun _ : Nat => iv (ind false)) = List.replicate 101 (iv 0) := by rw [List.map_const', List.length_range]; rfl
  unfold zeros bitC; rw [this]
theorem bit_splice {f g : Nat → Bool} : splice (bitC f) 0 (bitC g).toList = bitC g := by
  rw [splice_all (by rw [bitC_s]; simp [bitC])]
theorem bit_len {f : Nat → Bool} : (bitC f).toList.length = 101 := by simp [bitC]
def inRow (y : Fin 2 → Int) (n : Nat) : Bool := decide (rowLo y ≤ n ∧ (n : Int) ≤ rowHi y)
def anyRow (l : List (Fin 2 → Int)) (n : Nat) : Bool := l.any fun y => inRow y n
theorem anyRow_snoc {l : List (Fin 2 → Int)} {i : Nat} (h : i < l.length) (n : Nat) : anyRow (l.take (i + 1)) n = (anyRow (l.take i) n || inRow l[i] n) := by
  have : l.take (i + 1) = l.take i ++ [l[i]] := by rw [List.take_add_one, List.getElem?_eq_getElem h]; rfl
  unfold anyRow; rw [this, List.any_append]; simp

theorem bits_s {H0 H : Heap} {Qs : List Asr} {v : Value} {l : List (Fin 2 → Int)} {below : Nat} {R : Value → Heap → Prop} (h : Sep H0 H Qs) (hv : ShowA (intsE 2) H0 v l) (hin : ∀ y ∈ l, ∀ i, In64 (y i)) (hb : below ≤ 100)
    (hR : ∀ H', Sep H0 H' Qs → R (.agg (bitC fun n => anyRow l n && decide (below ≤ n))) H') : EvF P N.sounderlaw04_bits #[v, iv below] H R := by
  refine sounderlaw04_bits_ev _ _ _ _ ?_
  simp only [sounderlaw04_bits, sounderlaw04_bits_g49, sounderlaw04_bits_g50, sounderlaw04_bits_g51, sounderlaw04_bits_l80]
  try simp only [bnd_some, brV_t, brV_f, brG_t, brG_f, newE_u, pickE_t, pickE_f, nilV_p, faV_p, cells_int, cells_bool, cells_ptr, cells_slice, cells_func, cells_agg, bin_eql, bin_neq, bin_lss, bin_leq, bin_gtr, bin_geq, bin_eqlb, bin_neqb, bin_eqlp, bin_eqlp0, bin_neqp, bin_neqp0, bin_eqls, bin_eqls0, un_not, un_neg, len_s, cap_s, ex_t, cv_i, callV_f, Option.bind_some, Option.map_some, Nat.zero_add, Nat.add_zero, Nat.reduceAdd, Nat.reduceMul, size_newB, size_setB, blk_newB_self, own_newB_self, setB_setB, List.getElem?_toArray, List.getElem?_cons_zero, List.getElem?_cons_succ, List.length_cons, List.length_nil, List.all_cons, List.all_nil, isCell_int, isCell_bool, isCell_ptr, isCell_slice, isCell_func, Bool.and_true, Bool.and_self, and_self, if_true, List.size_toArray, and_true, true_and, Nat.reduceLeDiff, Nat.le_refl, Bool.not_true, Bool.not_false, Bool.true_and, Bool.false_and, Bool.and_false, Int.reduceBNe, Int.reduceBEq, Int.reduceLT, Int.reduceLE, decide_true, decide_false, zeros_bit]
  have hsm := hv.small
  have h2 := fun t t' => (((h.newC (t := t) (c := bitC fun _ => false)).newC (t := t') (c := bitC fun _ => false)))
  simp only [size_newB] at h2
  refine ⟨fun x K => ∃ (i : Nat), x = iv i ∧ i ≤ l.length ∧ Sep H0 K (cellsA (H.size + 1) (bitC (anyRow (l.take i))) :: cellsA H.size (bitC fun _ => false) :: Qs), fun x _ => (match x with | .int _ i => (l.length - i).toNat | _ => 0),
    ⟨0, rfl, by omega, by rw [show anyRow (l.take 0) = fun _ => false from by funext n; simp [anyRow]]; exact h2 _ _⟩, ?_⟩
  rintro x K ⟨i, rfl, hil, hs⟩
  have hvK := hv.ext hs.only
  simp only [sounderlaw04_bits_s52, sounderlaw04_bits_g53]
  try simp only [bnd_some, brV_t, brV_f, brG_t, brG_f, newE_u, pickE_t, pickE_f, nilV_p, faV_p, cells_int, cells_bool, cells_ptr, cells_slice, cells_func, cells_agg, bin_eql, bin_neq, bin_lss, bin_leq, bin_gtr, bin_geq, bin_eqlb, bin_neqb, bin_eqlp, bin_eqlp0, bin_neqp, bin_neqp0, bin_eqls, bin_eqls0, un_not, un_neg, len_s, cap_s, ex_t, cv_i, callV_f, Option.bind_some, Option.map_some, Nat.zero_add, Nat.add_zero, Nat.reduceAdd, Nat.reduceMul, size_newB, size_setB, blk_newB_self, own_newB_self, setB_setB, List.getElem?_toArray, List.getElem?_cons_zero, List.getElem?_cons_succ, List.length_cons, List.length_nil, List.all_cons, List.all_nil, isCell_int, isCell_bool, isCell_ptr, isCell_slice, isCell_func, Bool.and_true, Bool.and_self, and_self, if_true, List.size_toArray, and_true, true_and, Nat.reduceLeDiff, Nat.le_refl, Bool.not_true, Bool.not_false, Bool.true_and, Bool.false_and, Bool.and_false, Int.reduceBNe, Int.reduceBEq, Int.reduceLT, Int.reduceLE, decide_true, decide_false, hvK.len]
  refine brV_d (fun hlt => ?_) (fun hge => ?_)
  · have hil' : i < l.length := by omega
    obtain ⟨b, o, c, hx, hb', hc, hld⟩ := hvK.ix (by decide) hil' (rfl : (i : Int) = i)
    have hx' : ixSV 2 v (iv i) = _ := hx
    have hld' : ldE true 2 (.pointer (some ⟨b, o, none⟩)) K = some (.agg ((intsE 2).c l[i])) := hld
    simp only [sounderlaw04_bits_g54, sounderlaw04_bits_g55]
    try simp only [bnd_some, brV_t, brV_f, brG_t, brG_f, newE_u, pickE_t, pickE_f, nilV_p, faV_p, cells_int, cells_bool, cells_ptr, cells_slice, cells_func, cells_agg, bin_eql, bin_neq, bin_lss, bin_leq, bin_gtr, bin_geq, bin_eqlb, bin_neqb, bin_eqlp, bin_eqlp0, bin_neqp, bin_neqp0, bin_eqls, bin_eqls0, un_not, un_neg, len_s, cap_s, ex_t, cv_i, callV_f, Option.bind_some, Option.map_some, Nat.zero_add, Nat.add_zero, Nat.reduceAdd, Nat.reduceMul, size_newB, size_setB, blk_newB_self, own_newB_self, setB_setB, List.getElem?_toArray, List.getElem?_cons_zero, List.getElem?_cons_succ, List.length_cons, List.length_nil, List.all_cons, List.all_nil, isCell_int, isCell_bool, isCell_ptr, isCell_slice, isCell_func, Bool.and_true, Bool.and_self, and_self, if_true, List.size_toArray, and_true, true_and, Nat.reduceLeDiff, Nat.le_refl, Bool.not_true, Bool.not_false, Bool.true_and, Bool.false_and, Bool.and_false, Int.reduceBNe, Int.reduceBEq, Int.reduceLT, Int.reduceLE, decide_true, decide_false, hx', hld']
    refine row_s hs (hin _ (List.getElem_mem hil')) fun K1 h3 => ?_
    have hrb := row_b l[i]
    try simp only [bnd_some, brV_t, brV_f, brG_t, brG_f, newE_u, pickE_t, pickE_f, nilV_p, faV_p, cells_int, cells_bool, cells_ptr, cells_slice, cells_func, cells_agg, bin_eql, bin_neq, bin_lss, bin_leq, bin_gtr, bin_geq, bin_eqlb, bin_neqb, bin_eqlp, bin_eqlp0, bin_neqp, bin_neqp0, bin_eqls, bin_eqls0, un_not, un_neg, len_s, cap_s, ex_t, cv_i, callV_f, Option.bind_some, Option.map_some, Nat.zero_add, Nat.add_zero, Nat.reduceAdd, Nat.reduceMul, size_newB, size_setB, blk_newB_self, own_newB_self, setB_setB, List.getElem?_toArray, List.getElem?_cons_zero, List.getElem?_cons_succ, List.length_cons, List.length_nil, List.all_cons, List.all_nil, isCell_int, isCell_bool, isCell_ptr, isCell_slice, isCell_func, Bool.and_true, Bool.and_self, and_self, if_true, List.size_toArray, and_true, true_and, Nat.reduceLeDiff, Nat.le_refl, Bool.not_true, Bool.not_false, Bool.true_and, Bool.false_and, Bool.and_false, Int.reduceBNe, Int.reduceBEq, Int.reduceLT, Int.reduceLE, decide_true, decide_false]
    refine ⟨fun x K => ∃ (n : Nat), x = iv n ∧ rowLo l[i] ≤ n ∧ (n : Int) ≤ rowHi l[i] + 1 ∧ Sep H0 K (cellsA (H.size + 1) (bitC fun m => anyRow (l.take i) m || (decide (rowLo l[i] ≤ m) && decide (m < n))) :: cellsA H.size (bitC fun _ => false) :: Qs),
      fun x _ => (match x with | .int _ i => (200 - i).toNat | _ => 0), ⟨(rowLo l[i]).toNat, by congr 1; omega, by omega, by omega, ?_⟩, ?_⟩
    · have e : (bitC fun m => anyRow (l.take i) m || (decide (rowLo l[i] ≤ (m : Int)) && decide (m < (rowLo l[i]).toNat))) = bitC (anyRow (l.take i)) := by
        congr 1; funext m
        have : (decide (rowLo l[i] ≤ (m : Int)) && decide (m < (rowLo l[i]).toNat)) = false := by
          rw [Bool.and_eq_false_iff]; simp; omega
        rw [this, Bool.or_false]
      rw [e]; exact h3
    · rintro x K ⟨n, rfl, hn1, hn2, hs2⟩
      simp only [sounderlaw04_bits_s56, sounderlaw04_bits_g57]
      try simp only [bnd_some, brV_t, brV_f, brG_t, brG_f, newE_u, pickE_t, pickE_f, nilV_p, faV_p, cells_int, cells_bool, cells_ptr, cells_slice, cells_func, cells_agg, bin_eql, bin_neq, bin_lss, bin_leq, bin_gtr, bin_geq, bin_eqlb, bin_neqb, bin_eqlp, bin_eqlp0, bin_neqp, bin_neqp0, bin_eqls, bin_eqls0, un_not, un_neg, len_s, cap_s, ex_t, cv_i, callV_f, Option.bind_some, Option.map_some, Nat.zero_add, Nat.add_zero, Nat.reduceAdd, Nat.reduceMul, size_newB, size_setB, blk_newB_self, own_newB_self, setB_setB, List.getElem?_toArray, List.getElem?_cons_zero, List.getElem?_cons_succ, List.length_cons, List.length_nil, List.all_cons, List.all_nil, isCell_int, isCell_bool, isCell_ptr, isCell_slice, isCell_func, Bool.and_true, Bool.and_self, and_self, if_true, List.size_toArray, and_true, true_and, Nat.reduceLeDiff, Nat.le_refl, Bool.not_true, Bool.not_false, Bool.true_and, Bool.false_and, Bool.and_false, Int.reduceBNe, Int.reduceBEq, Int.reduceLT, Int.reduceLE, decide_true, decide_false]
      refine brV_d (fun hle => ?_) (fun hgt => ?_)
      · have ha : ixAV 1 101 (.pointer (some ⟨H.size + 1, 0, none⟩)) (iv n) = some (.pointer (some ⟨H.size + 1, n, none⟩)) := by rw [ixA_u (by omega)]; simp
        have w5 : IntKind.i64.wrap ((n : Int) + 1) = ((n + 1 : Nat) : Int) := by rw [wrap_in (by omega)]; omega
        have hn101 : n + 1 ≤ 101 := by omega
        simp only [sounderlaw04_bits_g58, sounderlaw04_bits_g59]
        try simp only [bnd_some, brV_t, brV_f, brG_t, brG_f, newE_u, pickE_t, pickE_f, nilV_p, faV_p, cells_int, cells_bool, cells_ptr, cells_slice, cells_func, cells_agg, bin_eql, bin_neq, bin_lss, bin_leq, bin_gtr, bin_geq, bin_eqlb, bin_neqb, bin_eqlp, bin_eqlp0, bin_neqp, bin_neqp0, bin_eqls, bin_eqls0, un_not, un_neg, len_s, cap_s, ex_t, cv_i, callV_f, Option.bind_some, Option.map_some, Nat.zero_add, Nat.add_zero, Nat.reduceAdd, Nat.reduceMul, size_newB, size_setB, blk_newB_self, own_newB_self, setB_setB, List.getElem?_toArray, List.getElem?_cons_zero, List.getElem?_cons_succ, List.length_cons, List.length_nil, List.all_cons, List.all_nil, isCell_int, isCell_bool, isCell_ptr, isCell_slice, isCell_func, Bool.and_true, Bool.and_self, and_self, if_true, List.size_toArray, and_true, true_and, Nat.reduceLeDiff, Nat.le_refl, Bool.not_true, Bool.not_false, Bool.true_and, Bool.false_and, Bool.and_false, Int.reduceBNe, Int.reduceBEq, Int.reduceLT, Int.reduceLE, decide_true, decide_false, ha, stE_p, wrA_b, hs2.cells, bitC_s, hn101, bin_add, w5]
        refine ⟨⟨n + 1, rfl, by omega, by omega, ?_⟩, by show _ < _; omega⟩
        have := hs2.set (c' := splice (bitC fun m => anyRow (l.take i) m || (decide (rowLo l[i] ≤ (m : Int)) && decide (m < n))) n [iv (ind true)])
        rw [congrArg (cellsA (H.size + 1)) (bitC_set (g := fun m => anyRow (l.take i) m || (decide (rowLo l[i] ≤ (m : Int)) && decide (m < n + 1))) (fun m => ?_) (by omega))] at this
        · exact this
        · by_cases hm : m = n
          · subst hm; simp; right; exact hn1
          · rw [if_neg hm]; congr 2
            rw [Bool.eq_iff_iff]; simp; omega
      · have w5 : IntKind.i64.wrap ((i : Int) + 1) = ((i + 1 : Nat) : Int) := by rw [wrap_in (by omega)]; omega
        simp only [sounderlaw04_bits_g60]
        try simp only [bnd_some, brV_t, brV_f, brG_t, brG_f, newE_u, pickE_t, pickE_f, nilV_p, faV_p, cells_int, cells_bool, cells_ptr, cells_slice, cells_func, cells_agg, bin_eql, bin_neq, bin_lss, bin_leq, bin_gtr, bin_geq, bin_eqlb, bin_neqb, bin_eqlp, bin_eqlp0, bin_neqp, bin_neqp0, bin_eqls, bin_eqls0, un_not, un_neg, len_s, cap_s, ex_t, cv_i, callV_f, Option.bind_some, Option.map_some, Nat.zero_add, Nat.add_zero, Nat.reduceAdd, Nat.reduceMul, size_newB, size_setB, blk_newB_self, own_newB_self, setB_setB, List.getElem?_toArray, List.getElem?_cons_zero, List.getElem?_cons_succ, List.length_cons, List.length_nil, List.all_cons, List.all_nil, isCell_int, isCell_bool, isCell_ptr, isCell_slice, isCell_func, Bool.and_true, Bool.and_self, and_self, if_true, List.size_toArray, and_true, true_and, Nat.reduceLeDiff, Nat.le_refl, Bool.not_true, Bool.not_false, Bool.true_and, Bool.false_and, Bool.and_false, Int.reduceBNe, Int.reduceBEq, Int.reduceLT, Int.reduceLE, decide_true, decide_false, bin_add, w5]
        refine ⟨⟨i + 1, rfl, by omega, ?_⟩, by show _ < _; omega⟩
        have e : (bitC fun m => anyRow (l.take i) m || (decide (rowLo l[i] ≤ (m : Int)) && decide (m < n))) = bitC (anyRow (l.take (i + 1))) := by
          congr 1; funext m
          rw [anyRow_snoc hil']; congr 1
          unfold inRow
          rw [Bool.eq_iff_iff]; simp; omega
        rw [← e]; exact hs2
  · have hi : i = l.length := by omega
    subst hi
    rw [List.take_length] at hs
    simp only [sounderlaw04_bits_g70, sounderlaw04_bits_l79]
    refine ⟨fun x K => ∃ (n : Nat), x = iv n ∧ n ≤ below ∧ Sep H0 K (cellsA (H.size + 1) (bitC fun m => anyRow l m && decide (n ≤ m)) :: cellsA H.size (bitC fun _ => false) :: Qs),
      fun x _ => (match x with | .int _ i => (200 - i).toNat | _ => 0), ⟨0, rfl, by omega, ?_⟩, ?_⟩
    · have e : (bitC fun m => anyRow l m && decide (0 ≤ m)) = bitC (anyRow l) := by congr 1; funext m; simp
      rw [e]; exact hs
    · rintro x K ⟨n, rfl, hn, hs2⟩
      simp only [sounderlaw04_bits_s71, sounderlaw04_bits_g72]
      try simp only [bnd_some, brV_t, brV_f, brG_t, brG_f, newE_u, pickE_t, pickE_f, nilV_p, faV_p, cells_int, cells_bool, cells_ptr, cells_slice, cells_func, cells_agg, bin_eql, bin_neq, bin_lss, bin_leq, bin_gtr, bin_geq, bin_eqlb, bin_neqb, bin_eqlp, bin_eqlp0, bin_neqp, bin_neqp0, bin_eqls, bin_eqls0, un_not, un_neg, len_s, cap_s, ex_t, cv_i, callV_f, Option.bind_some, Option.map_some, Nat.zero_add, Nat.add_zero, Nat.reduceAdd, Nat.reduceMul, size_newB, size_setB, blk_newB_self, own_newB_self, setB_setB, List.getElem?_toArray, List.getElem?_cons_zero, List.getElem?_cons_succ, List.length_cons, List.length_nil, List.all_cons, List.all_nil, isCell_int, isCell_bool, isCell_ptr, isCell_slice, isCell_func, Bool.and_true, Bool.and_self, and_self, if_true, List.size_toArray, and_true, true_and, Nat.reduceLeDiff, Nat.le_refl, Bool.not_true, Bool.not_false, Bool.true_and, Bool.false_and, Bool.and_false, Int.reduceBNe, Int.reduceBEq, Int.reduceLT, Int.reduceLE, decide_true, decide_false]
      refine brV_d (fun hlt => ?_) (fun hge => ?_)
      · have ha : ixAV 1 101 (.pointer (some ⟨H.size + 1, 0, none⟩)) (iv n) = some (.pointer (some ⟨H.size + 1, n, none⟩)) := by rw [ixA_u (by omega)]; simp
        have w5 : IntKind.i64.wrap ((n : Int) + 1) = ((n + 1 : Nat) : Int) := by rw [wrap_in (by omega)]; omega
        have hn101 : n + 1 ≤ 101 := by omega
        simp only [sounderlaw04_bits_g73, sounderlaw04_bits_g74]
        try simp only [bnd_some, brV_t, brV_f, brG_t, brG_f, newE_u, pickE_t, pickE_f, nilV_p, faV_p, cells_int, cells_bool, cells_ptr, cells_slice, cells_func, cells_agg, bin_eql, bin_neq, bin_lss, bin_leq, bin_gtr, bin_geq, bin_eqlb, bin_neqb, bin_eqlp, bin_eqlp0, bin_neqp, bin_neqp0, bin_eqls, bin_eqls0, un_not, un_neg, len_s, cap_s, ex_t, cv_i, callV_f, Option.bind_some, Option.map_some, Nat.zero_add, Nat.add_zero, Nat.reduceAdd, Nat.reduceMul, size_newB, size_setB, blk_newB_self, own_newB_self, setB_setB, List.getElem?_toArray, List.getElem?_cons_zero, List.getElem?_cons_succ, List.length_cons, List.length_nil, List.all_cons, List.all_nil, isCell_int, isCell_bool, isCell_ptr, isCell_slice, isCell_func, Bool.and_true, Bool.and_self, and_self, if_true, List.size_toArray, and_true, true_and, Nat.reduceLeDiff, Nat.le_refl, Bool.not_true, Bool.not_false, Bool.true_and, Bool.false_and, Bool.and_false, Int.reduceBNe, Int.reduceBEq, Int.reduceLT, Int.reduceLE, decide_true, decide_false, ha, stE_p, wrA_b, hs2.cells, bitC_s, hn101, bin_add, w5]
        refine ⟨⟨n + 1, rfl, by omega, ?_⟩, by show _ < _; omega⟩
        have := hs2.set (c' := splice (bitC fun m => anyRow l m && decide (n ≤ m)) n [iv (ind false)])
        rw [congrArg (cellsA (H.size + 1)) (bitC_set (g := fun m => anyRow l m && decide (n + 1 ≤ m)) (fun m => ?_) (by omega))] at this
        · exact this
        · by_cases hm : m = n
          · subst hm; simp
          · rw [if_neg hm]; congr 1
            rw [Bool.eq_iff_iff]; simp; omega
      · have hn' : n = below := by omega
        subst hn'
        have hx4 := hs2.b1.cells
        simp only [sounderlaw04_bits_g75]
        try simp only [bnd_some, brV_t, brV_f, brG_t, brG_f, newE_u, pickE_t, pickE_f, nilV_p, faV_p, cells_int, cells_bool, cells_ptr, cells_slice, cells_func, cells_agg, bin_eql, bin_neq, bin_lss, bin_leq, bin_gtr, bin_geq, bin_eqlb, bin_neqb, bin_eqlp, bin_eqlp0, bin_neqp, bin_neqp0, bin_eqls, bin_eqls0, un_not, un_neg, len_s, cap_s, ex_t, cv_i, callV_f, Option.bind_some, Option.map_some, Nat.zero_add, Nat.add_zero, Nat.reduceAdd, Nat.reduceMul, size_newB, size_setB, blk_newB_self, own_newB_self, setB_setB, List.getElem?_toArray, List.getElem?_cons_zero, List.getElem?_cons_succ, List.length_cons, List.length_nil, List.all_cons, List.all_nil, isCell_int, isCell_bool, isCell_ptr, isCell_slice, isCell_func, Bool.and_true, Bool.and_self, and_self, if_true, List.size_toArray, and_true, true_and, Nat.reduceLeDiff, Nat.le_refl, Bool.not_true, Bool.not_false, Bool.true_and, Bool.false_and, Bool.and_false, Int.reduceBNe, Int.reduceBEq, Int.reduceLT, Int.reduceLE, decide_true, decide_false, ldE_t, rdA_u, own_blk hs2.cells, bitC_g, stE_p, wrA_b, hx4, bitC_s, bit_len, bitC_cell, bit_splice, own_blk (own_setB_same hx4)]
        exact hR _ (hs2.b1.set (c' := _)).drop.drop
end Go.Hc

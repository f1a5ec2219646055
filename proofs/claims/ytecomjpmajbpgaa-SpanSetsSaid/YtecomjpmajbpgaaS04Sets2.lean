/- SpanSets: is a set just those numbers? -/
import Derived.Test.YtecomjpmajbpgaaS04Sets
set_option linter.unusedSimpArgs false
set_option linter.unusedVariables false
namespace Go.Hc
open Go

theorem ind_eq1 {b : Bool} : ((ind b) == 1) = b := by cases b <;> rfl
theorem ind_ne1 {b : Bool} : ((ind b) != 1) = !b := by cases b <;> rfl
theorem cnt_take {l : List Rng} {i : Nat} (h : i < l.length) : cnt (l.take (i + 1)) = cnt (l.take i) + (l[i].2 - l[i].1 + 1) := by
  rw [List.take_add_one, List.getElem?_eq_getElem h, Option.toList_some, cnt_app]; simp [cnt]
theorem cnt_low {rs : List Rng} (h : Okr rs) (hl : ∀ r ∈ rs, r.2 ≤ 100) (i : Nat) : 0 ≤ cnt (rs.reverse.take i) ∧ cnt (rs.reverse.take i) ≤ 9007199254740992 := by
  have h1 : rs.reverse.take i = (rs.drop (rs.length - i)).reverse := by rw [List.take_reverse]
  rw [h1, cnt_rev]
  have hok : Okr (rs.drop (rs.length - i)) := ⟨fun r hr => h.each r (List.mem_of_mem_drop hr), h.up.sublist (List.drop_sublist _ _)⟩
  have := cnt_bound hok (a := 0) (fun r hr => (hok.each r hr).1) (by omega)
  omega
theorem sumB_b (f : Nat → Bool) : ∀ n, 0 ≤ sumB f n ∧ sumB f n ≤ n
  | 0 => by simp [sumB]
  | n + 1 => by
    have := sumB_b f n
    have h : 0 ≤ ind (f n) ∧ ind (f n) ≤ 1 := by cases f n <;> simp [ind]
    simp only [sumB]; push_cast; omega
theorem is_s {H0 H : Heap} {Qs : List Asr} {s room : Nat} {rs : List Rng} {f : Nat → Bool} {R : Value → Heap → Prop} (h : Sep H0 H (setA s room rs :: Qs)) (hlow : ∀ r ∈ rs, r.2 ≤ 100) (hf : ∀ n : Nat, n < 101 → (f n = true ↔ Mem rs n))
    (hR : ∀ H', Sep H0 H' (setA s room rs :: Qs) → R (.bool true) H') : EvF P N.sounderlaw04_is #[ptr s, .agg (bitC f)] H R := by
  refine sounderlaw04_is_ev _ _ _ _ ?_
  have hok := h.set_ok.2.1
  simp only [sounderlaw04_is, sounderlaw04_is_g81, sounderlaw04_is_g82, sounderlaw04_is_g83, sounderlaw04_is_g84, sounderlaw04_is_l129]
  try simp only [bnd_some, brV_t, brV_f, brG_t, brG_f, newE_u, pickE_t, pickE_f, nilV_p, faV_p, cells_int, cells_bool, cells_ptr, cells_slice, cells_func, cells_agg, bin_eql, bin_neq, bin_lss, bin_leq, bin_gtr, bin_geq, bin_eqlb, bin_neqb, bin_eqlp, bin_eqlp0, bin_neqp, bin_neqp0, bin_eqls, bin_eqls0, un_not, un_neg, len_s, cap_s, ex_t, cv_i, callV_f, Option.bind_some, Option.map_some, Nat.zero_add, Nat.add_zero, Nat.reduceAdd, Nat.reduceMul, size_newB, size_setB, blk_newB_self, own_newB_self, setB_setB, List.getElem?_toArray, List.getElem?_cons_zero, List.getElem?_cons_succ, List.length_cons, List.length_nil, List.all_cons, List.all_nil, isCell_int, isCell_bool, isCell_ptr, isCell_slice, isCell_func, Bool.and_true, Bool.and_self, and_self, if_true, List.size_toArray, and_true, true_and, Nat.reduceLeDiff, Nat.le_refl, Bool.not_true, Bool.not_false, Bool.true_and, Bool.false_and, Bool.and_false, Int.reduceBNe, Int.reduceBEq, Int.reduceLT, Int.reduceLE, decide_true, decide_false]
  refine ranges_s (h.newC (c := bitC f)).b1 fun v5 K0 h0 => ?_
  have hlen : rs.reverse.length = rs.length := List.length_reverse
  have hsm : rs.length ≤ 256 := by have := h.set_ok; omega
  refine ⟨fun x6 x7 x8 K => ∃ (i : Nat) (last : Int), x6 = iv (cnt (rs.reverse.take i)) ∧ x7 = iv last ∧ x8 = iv i ∧ i ≤ rs.length ∧ (∀ hi : i < rs.reverse.length, rs.reverse[i].2 < last - 1) ∧ -1000 ≤ last ∧ last ≤ 1000 ∧ Sep H0 K (lstA rngE v5 rs.reverse :: setA s room rs :: cellsA H.size (bitC f) :: Qs),
    fun _ _ x _ => (match x with | .int _ i => (rs.length - i).toNat | _ => 0), ⟨0, 200, rfl, rfl, rfl, by omega, fun hi => ?_, by omega, by omega, h0⟩, ?_⟩
  · have := hlow _ (List.mem_reverse.1 (List.getElem_mem hi)); omega
  rintro x6 x7 x8 K ⟨i, last, rfl, rfl, rfl, hil, hlast, hl1, hl2, hs⟩
  obtain ⟨T, o⟩ := hs.list
  have hcell := own_blk hs.b2.cells
  simp only [sounderlaw04_is_s85, sounderlaw04_is_g86]
  try simp only [bnd_some, brV_t, brV_f, brG_t, brG_f, newE_u, pickE_t, pickE_f, nilV_p, faV_p, cells_int, cells_bool, cells_ptr, cells_slice, cells_func, cells_agg, bin_eql, bin_neq, bin_lss, bin_leq, bin_gtr, bin_geq, bin_eqlb, bin_neqb, bin_eqlp, bin_eqlp0, bin_neqp, bin_neqp0, bin_eqls, bin_eqls0, un_not, un_neg, len_s, cap_s, ex_t, cv_i, callV_f, Option.bind_some, Option.map_some, Nat.zero_add, Nat.add_zero, Nat.reduceAdd, Nat.reduceMul, size_newB, size_setB, blk_newB_self, own_newB_self, setB_setB, List.getElem?_toArray, List.getElem?_cons_zero, List.getElem?_cons_succ, List.length_cons, List.length_nil, List.all_cons, List.all_nil, isCell_int, isCell_bool, isCell_ptr, isCell_slice, isCell_func, Bool.and_true, Bool.and_self, and_self, if_true, List.size_toArray, and_true, true_and, Nat.reduceLeDiff, Nat.le_refl, Bool.not_true, Bool.not_false, Bool.true_and, Bool.false_and, Bool.and_false, Int.reduceBNe, Int.reduceBEq, Int.reduceLT, Int.reduceLE, decide_true, decide_false, o.len, hlen]
  refine brV_d (fun hlt => ?_) (fun hge => ?_)
  · have hi : i < rs.reverse.length := by omega
    obtain ⟨b, oo, c, i1, i2, i3, _⟩ := o.show.ix (by decide) hi (rfl : (i : Int) = i)
    have i1' : ixSV 2 v5 (iv i) = _ := i1
    have c0 : c[oo]? = some (iv rs.reverse[i].1) := i3 0 (by decide)
    have c1 : c[oo + 1]? = some (iv rs.reverse[i].2) := i3 1 (by decide)
    have hmem : rs.reverse[i] ∈ rs := List.mem_reverse.1 (List.getElem_mem hi)
    have he := hok.each _ hmem
    have hlo := hlow _ hmem
    have hla := hlast hi
    have w1 : IntKind.i64.wrap (last - 1) = last - 1 := wrap_in (by omega)
    have d1 : decide (rs.reverse[i].2 < rs.reverse[i].1) = false := decide_eq_false (by omega)
    have d2 : decide (last - 1 ≤ rs.reverse[i].2) = false := decide_eq_false (by omega)
    have d3 : decide (rs.reverse[i].1 < 0) = false := decide_eq_false (by omega)
    simp only [sounderlaw04_is_g87, sounderlaw04_is_g88, sounderlaw04_is_g89, sounderlaw04_is_g90, sounderlaw04_is_l106]
    try simp only [bnd_some, brV_t, brV_f, brG_t, brG_f, newE_u, pickE_t, pickE_f, nilV_p, faV_p, cells_int, cells_bool, cells_ptr, cells_slice, cells_func, cells_agg, bin_eql, bin_neq, bin_lss, bin_leq, bin_gtr, bin_geq, bin_eqlb, bin_neqb, bin_eqlp, bin_eqlp0, bin_neqp, bin_neqp0, bin_eqls, bin_eqls0, un_not, un_neg, len_s, cap_s, ex_t, cv_i, callV_f, Option.bind_some, Option.map_some, Nat.zero_add, Nat.add_zero, Nat.reduceAdd, Nat.reduceMul, size_newB, size_setB, blk_newB_self, own_newB_self, setB_setB, List.getElem?_toArray, List.getElem?_cons_zero, List.getElem?_cons_succ, List.length_cons, List.length_nil, List.all_cons, List.all_nil, isCell_int, isCell_bool, isCell_ptr, isCell_slice, isCell_func, Bool.and_true, Bool.and_self, and_self, if_true, List.size_toArray, and_true, true_and, Nat.reduceLeDiff, Nat.le_refl, Bool.not_true, Bool.not_false, Bool.true_and, Bool.false_and, Bool.and_false, Int.reduceBNe, Int.reduceBEq, Int.reduceLT, Int.reduceLE, decide_true, decide_false, ldE_f, i1', i2, c0, c1, d1, bin_sub, w1, d2, d3]
    have hb1 := cnt_low hok hlow i
    refine ⟨fun x6 x9 K => ∃ n : Nat, x9 = iv n ∧ rs.reverse[i].1 ≤ n ∧ (n : Int) ≤ rs.reverse[i].2 + 1 ∧ x6 = iv (cnt (rs.reverse.take i) + (n - rs.reverse[i].1)) ∧ Sep H0 K (lstA rngE v5 rs.reverse :: setA s room rs :: cellsA H.size (bitC f) :: Qs),
      fun _ x _ => (match x with | .int _ i => (200 - i).toNat | _ => 0), ⟨rs.reverse[i].1.toNat, by congr 1; omega, by omega, by omega, by congr 1; omega, hs⟩, ?_⟩
    rintro x6 x9 K1 ⟨n, rfl, hn1, hn2, rfl, hs1⟩
    obtain ⟨T1, o1⟩ := hs1.list
    obtain ⟨b', oo', c', j1, j2, j3, _⟩ := o1.show.ix (by decide) hi (rfl : (i : Int) = i)
    have j1' : ixSV 2 v5 (iv i) = _ := j1
    have e1 : c'[oo' + 1]? = some (iv rs.reverse[i].2) := j3 1 (by decide)
    simp only [sounderlaw04_is_s91, sounderlaw04_is_g92]
    try simp only [bnd_some, brV_t, brV_f, brG_t, brG_f, newE_u, pickE_t, pickE_f, nilV_p, faV_p, cells_int, cells_bool, cells_ptr, cells_slice, cells_func, cells_agg, bin_eql, bin_neq, bin_lss, bin_leq, bin_gtr, bin_geq, bin_eqlb, bin_neqb, bin_eqlp, bin_eqlp0, bin_neqp, bin_neqp0, bin_eqls, bin_eqls0, un_not, un_neg, len_s, cap_s, ex_t, cv_i, callV_f, Option.bind_some, Option.map_some, Nat.zero_add, Nat.add_zero, Nat.reduceAdd, Nat.reduceMul, size_newB, size_setB, blk_newB_self, own_newB_self, setB_setB, List.getElem?_toArray, List.getElem?_cons_zero, List.getElem?_cons_succ, List.length_cons, List.length_nil, List.all_cons, List.all_nil, isCell_int, isCell_bool, isCell_ptr, isCell_slice, isCell_func, Bool.and_true, Bool.and_self, and_self, if_true, List.size_toArray, and_true, true_and, Nat.reduceLeDiff, Nat.le_refl, Bool.not_true, Bool.not_false, Bool.true_and, Bool.false_and, Bool.and_false, Int.reduceBNe, Int.reduceBEq, Int.reduceLT, Int.reduceLE, decide_true, decide_false, ldE_f, j1', j2, e1]
    refine brV_d (fun hle => ?_) (fun hgt => ?_)
    · have d4 : decide ((100 : Int) < (n : Int)) = false := decide_eq_false (by omega)
      have ha : ixAV 1 101 (.pointer (some ⟨H.size, 0, none⟩)) (iv n) = some (.pointer (some ⟨H.size, n, none⟩)) := by rw [ixA_u (by omega)]; simp
      have hfn : f n = true := (hf n (by omega)).2 ⟨_, hmem, hn1, hle⟩
      have hbn : (bitC f)[n]? = some (iv 1) := by rw [bitC_at (by omega), hfn]; rfl
      have w2 : IntKind.i64.wrap (cnt (rs.reverse.take i) + (n - rs.reverse[i].1) + 1) = cnt (rs.reverse.take i) + ((n + 1 : Nat) - rs.reverse[i].1) := by rw [wrap_in (by omega)]; omega
      have w5 : IntKind.i64.wrap ((n : Int) + 1) = ((n + 1 : Nat) : Int) := by rw [wrap_in (by omega)]; omega
      simp only [sounderlaw04_is_g93, sounderlaw04_is_g94, sounderlaw04_is_g95, sounderlaw04_is_g96]
      try simp only [bnd_some, brV_t, brV_f, brG_t, brG_f, newE_u, pickE_t, pickE_f, nilV_p, faV_p, cells_int, cells_bool, cells_ptr, cells_slice, cells_func, cells_agg, bin_eql, bin_neq, bin_lss, bin_leq, bin_gtr, bin_geq, bin_eqlb, bin_neqb, bin_eqlp, bin_eqlp0, bin_neqp, bin_neqp0, bin_eqls, bin_eqls0, un_not, un_neg, len_s, cap_s, ex_t, cv_i, callV_f, Option.bind_some, Option.map_some, Nat.zero_add, Nat.add_zero, Nat.reduceAdd, Nat.reduceMul, size_newB, size_setB, blk_newB_self, own_newB_self, setB_setB, List.getElem?_toArray, List.getElem?_cons_zero, List.getElem?_cons_succ, List.length_cons, List.length_nil, List.all_cons, List.all_nil, isCell_int, isCell_bool, isCell_ptr, isCell_slice, isCell_func, Bool.and_true, Bool.and_self, and_self, if_true, List.size_toArray, and_true, true_and, Nat.reduceLeDiff, Nat.le_refl, Bool.not_true, Bool.not_false, Bool.true_and, Bool.false_and, Bool.and_false, Int.reduceBNe, Int.reduceBEq, Int.reduceLT, Int.reduceLE, decide_true, decide_false, ldE_f, d4, ha, own_blk hs1.b2.cells, hbn, bin_add, w2, w5]
      exact ⟨⟨n + 1, rfl, by omega, by omega, rfl, hs1⟩, by show _ < _; omega⟩
    · have w5 : IntKind.i64.wrap ((i : Int) + 1) = ((i + 1 : Nat) : Int) := by rw [wrap_in (by omega)]; omega
      simp only [sounderlaw04_is_g97]
      try simp only [bnd_some, brV_t, brV_f, brG_t, brG_f, newE_u, pickE_t, pickE_f, nilV_p, faV_p, cells_int, cells_bool, cells_ptr, cells_slice, cells_func, cells_agg, bin_eql, bin_neq, bin_lss, bin_leq, bin_gtr, bin_geq, bin_eqlb, bin_neqb, bin_eqlp, bin_eqlp0, bin_neqp, bin_neqp0, bin_eqls, bin_eqls0, un_not, un_neg, len_s, cap_s, ex_t, cv_i, callV_f, Option.bind_some, Option.map_some, Nat.zero_add, Nat.add_zero, Nat.reduceAdd, Nat.reduceMul, size_newB, size_setB, blk_newB_self, own_newB_self, setB_setB, List.getElem?_toArray, List.getElem?_cons_zero, List.getElem?_cons_succ, List.length_cons, List.length_nil, List.all_cons, List.all_nil, isCell_int, isCell_bool, isCell_ptr, isCell_slice, isCell_func, Bool.and_true, Bool.and_self, and_self, if_true, List.size_toArray, and_true, true_and, Nat.reduceLeDiff, Nat.le_refl, Bool.not_true, Bool.not_false, Bool.true_and, Bool.false_and, Bool.and_false, Int.reduceBNe, Int.reduceBEq, Int.reduceLT, Int.reduceLE, decide_true, decide_false, bin_add, w5]
      refine ⟨⟨i + 1, rs.reverse[i].1, ?_, rfl, rfl, by omega, fun hi2 => ?_, by omega, by omega, hs1⟩, by show _ < _; omega⟩
      · rw [cnt_take hi]; congr 1; omega
      · have hx : rs.reverse[i + 1].2 + 1 < rs.reverse[i].1 := by
          rw [List.getElem_reverse, List.getElem_reverse]
          exact hok.lt (by omega) (by omega)
        omega
  · have hi : i = rs.length := by omega
    subst hi
    rw [← hlen, List.take_length, cnt_rev] at *
    have hsum := cnt_sum (N := 101) hok (fun r hr => by have := hlow r hr; omega) f (fun n hn => hf n hn)
    have hcb := cnt_low hok hlow rs.reverse.length
    rw [List.take_length, cnt_rev] at hcb
    simp only [sounderlaw04_is_g107, sounderlaw04_is_l128]
    refine ⟨fun x6 x10 K => ∃ n : Nat, x10 = iv n ∧ n ≤ 101 ∧ x6 = iv (cnt rs - sumB f n) ∧ Sep H0 K (lstA rngE v5 rs.reverse :: setA s room rs :: cellsA H.size (bitC f) :: Qs),
      fun _ x _ => (match x with | .int _ i => (200 - i).toNat | _ => 0), ⟨0, rfl, by omega, by simp [sumB], hs⟩, ?_⟩
    rintro x6 x10 K1 ⟨n, rfl, hn, rfl, hs1⟩
    simp only [sounderlaw04_is_s108, sounderlaw04_is_g109]
    try simp only [bnd_some, brV_t, brV_f, brG_t, brG_f, newE_u, pickE_t, pickE_f, nilV_p, faV_p, cells_int, cells_bool, cells_ptr, cells_slice, cells_func, cells_agg, bin_eql, bin_neq, bin_lss, bin_leq, bin_gtr, bin_geq, bin_eqlb, bin_neqb, bin_eqlp, bin_eqlp0, bin_neqp, bin_neqp0, bin_eqls, bin_eqls0, un_not, un_neg, len_s, cap_s, ex_t, cv_i, callV_f, Option.bind_some, Option.map_some, Nat.zero_add, Nat.add_zero, Nat.reduceAdd, Nat.reduceMul, size_newB, size_setB, blk_newB_self, own_newB_self, setB_setB, List.getElem?_toArray, List.getElem?_cons_zero, List.getElem?_cons_succ, List.length_cons, List.length_nil, List.all_cons, List.all_nil, isCell_int, isCell_bool, isCell_ptr, isCell_slice, isCell_func, Bool.and_true, Bool.and_self, and_self, if_true, List.size_toArray, and_true, true_and, Nat.reduceLeDiff, Nat.le_refl, Bool.not_true, Bool.not_false, Bool.true_and, Bool.false_and, Bool.and_false, Int.reduceBNe, Int.reduceBEq, Int.reduceLT, Int.reduceLE, decide_true, decide_false]
    refine brV_d (fun hlt => ?_) (fun hge => ?_)
    · have hn101 : n < 101 := by omega
      simp only [sounderlaw04_is_g110, sounderlaw04_is_l126]
      refine ⟨fun x11 K => ∃ q : Nat, x11 = iv q ∧ n ≤ q ∧ q ≤ 101 ∧ (∀ m, n ≤ m → m < q → f m = true) ∧ Sep H0 K (lstA rngE v5 rs.reverse :: setA s room rs :: cellsA H.size (bitC f) :: Qs),
        fun x _ => (match x with | .int _ i => (200 - i).toNat | _ => 0), ⟨n, rfl, by omega, by omega, by omega, hs1⟩, ?_⟩
      rintro x11 K2 ⟨q, rfl, hq1, hq2, hall, hs2⟩
      have ha : ∀ m : Nat, m < 101 → ixAV 1 101 (.pointer (some ⟨H.size, 0, none⟩)) (iv m) = some (.pointer (some ⟨H.size, m, none⟩)) := fun m hm => by rw [ixA_u (by omega)]; simp
      have hown := own_blk hs2.b2.cells
      have hg : ∀ (S : Value → Value → Value → Value → Value → Value → Heap → Prop) x6, (q = 101 ∨ f q = false) → S (ptr s) (.pointer (some ⟨H.size, 0, none⟩)) x6 (iv n) (iv q) (.bool false) K2 →
          sounderlaw04_is_g112 S (ptr s) (.pointer (some ⟨H.size, 0, none⟩)) x6 (iv n) (iv q) K2 := fun S x6 hst hS => by
        simp only [sounderlaw04_is_g112]
        try simp only [bnd_some, brV_t, brV_f, brG_t, brG_f, newE_u, pickE_t, pickE_f, nilV_p, faV_p, cells_int, cells_bool, cells_ptr, cells_slice, cells_func, cells_agg, bin_eql, bin_neq, bin_lss, bin_leq, bin_gtr, bin_geq, bin_eqlb, bin_neqb, bin_eqlp, bin_eqlp0, bin_neqp, bin_neqp0, bin_eqls, bin_eqls0, un_not, un_neg, len_s, cap_s, ex_t, cv_i, callV_f, Option.bind_some, Option.map_some, Nat.zero_add, Nat.add_zero, Nat.reduceAdd, Nat.reduceMul, size_newB, size_setB, blk_newB_self, own_newB_self, setB_setB, List.getElem?_toArray, List.getElem?_cons_zero, List.getElem?_cons_succ, List.length_cons, List.length_nil, List.all_cons, List.all_nil, isCell_int, isCell_bool, isCell_ptr, isCell_slice, isCell_func, Bool.and_true, Bool.and_self, and_self, if_true, List.size_toArray, and_true, true_and, Nat.reduceLeDiff, Nat.le_refl, Bool.not_true, Bool.not_false, Bool.true_and, Bool.false_and, Bool.and_false, Int.reduceBNe, Int.reduceBEq, Int.reduceLT, Int.reduceLE, decide_true, decide_false]
        refine brV_d (fun h1 => ?_) (fun _ => hS)
        have h2 : q < 101 := by omega
        have h3 : f q = false := hst.resolve_left (by omega)
        try simp only [bnd_some, brV_t, brV_f, brG_t, brG_f, newE_u, pickE_t, pickE_f, nilV_p, faV_p, cells_int, cells_bool, cells_ptr, cells_slice, cells_func, cells_agg, bin_eql, bin_neq, bin_lss, bin_leq, bin_gtr, bin_geq, bin_eqlb, bin_neqb, bin_eqlp, bin_eqlp0, bin_neqp, bin_neqp0, bin_eqls, bin_eqls0, un_not, un_neg, len_s, cap_s, ex_t, cv_i, callV_f, Option.bind_some, Option.map_some, Nat.zero_add, Nat.add_zero, Nat.reduceAdd, Nat.reduceMul, size_newB, size_setB, blk_newB_self, own_newB_self, setB_setB, List.getElem?_toArray, List.getElem?_cons_zero, List.getElem?_cons_succ, List.length_cons, List.length_nil, List.all_cons, List.all_nil, isCell_int, isCell_bool, isCell_ptr, isCell_slice, isCell_func, Bool.and_true, Bool.and_self, and_self, if_true, List.size_toArray, and_true, true_and, Nat.reduceLeDiff, Nat.le_refl, Bool.not_true, Bool.not_false, Bool.true_and, Bool.false_and, Bool.and_false, Int.reduceBNe, Int.reduceBEq, Int.reduceLT, Int.reduceLE, decide_true, decide_false, ldE_f, ha q h2, hown, bitC_at h2, ind_eq1, h3]
        exact hS
      simp only [sounderlaw04_is_s111]
      by_cases hgo : q < 101 ∧ f q = true
      · simp only [sounderlaw04_is_g112, sounderlaw04_is_g113]
        have d5 : decide ((q : Int) < 101) = true := decide_eq_true (by omega)
        have w5 : IntKind.i64.wrap ((q : Int) + 1) = ((q + 1 : Nat) : Int) := by rw [wrap_in (by omega)]; omega
        try simp only [bnd_some, brV_t, brV_f, brG_t, brG_f, newE_u, pickE_t, pickE_f, nilV_p, faV_p, cells_int, cells_bool, cells_ptr, cells_slice, cells_func, cells_agg, bin_eql, bin_neq, bin_lss, bin_leq, bin_gtr, bin_geq, bin_eqlb, bin_neqb, bin_eqlp, bin_eqlp0, bin_neqp, bin_neqp0, bin_eqls, bin_eqls0, un_not, un_neg, len_s, cap_s, ex_t, cv_i, callV_f, Option.bind_some, Option.map_some, Nat.zero_add, Nat.add_zero, Nat.reduceAdd, Nat.reduceMul, size_newB, size_setB, blk_newB_self, own_newB_self, setB_setB, List.getElem?_toArray, List.getElem?_cons_zero, List.getElem?_cons_succ, List.length_cons, List.length_nil, List.all_cons, List.all_nil, isCell_int, isCell_bool, isCell_ptr, isCell_slice, isCell_func, Bool.and_true, Bool.and_self, and_self, if_true, List.size_toArray, and_true, true_and, Nat.reduceLeDiff, Nat.le_refl, Bool.not_true, Bool.not_false, Bool.true_and, Bool.false_and, Bool.and_false, Int.reduceBNe, Int.reduceBEq, Int.reduceLT, Int.reduceLE, decide_true, decide_false, ldE_f, d5, ha q hgo.1, hown, bitC_at hgo.1, ind_eq1, hgo.2, bin_add, w5]
        refine ⟨⟨q + 1, rfl, by omega, by omega, fun m h1 h2 => ?_, hs2⟩, by show _ < _; omega⟩
        by_cases hm : m = q
        · subst hm; exact hgo.2
        · exact hall m h1 (by omega)
      · have hstop : q = 101 ∨ f q = false := by
          by_cases h1 : q = 101
          · exact .inl h1
          · refine .inr ?_
            cases h2 : f q with
            | false => rfl
            | true => exact absurd ⟨by omega, h2⟩ hgo
        refine hg _ _ hstop ?_
        simp only [sounderlaw04_is_g114, sounderlaw04_is_g115, sounderlaw04_is_g116, sounderlaw04_is_g117]
        try simp only [bnd_some, brV_t, brV_f, brG_t, brG_f, newE_u, pickE_t, pickE_f, nilV_p, faV_p, cells_int, cells_bool, cells_ptr, cells_slice, cells_func, cells_agg, bin_eql, bin_neq, bin_lss, bin_leq, bin_gtr, bin_geq, bin_eqlb, bin_neqb, bin_eqlp, bin_eqlp0, bin_neqp, bin_neqp0, bin_eqls, bin_eqls0, un_not, un_neg, len_s, cap_s, ex_t, cv_i, callV_f, Option.bind_some, Option.map_some, Nat.zero_add, Nat.add_zero, Nat.reduceAdd, Nat.reduceMul, size_newB, size_setB, blk_newB_self, own_newB_self, setB_setB, List.getElem?_toArray, List.getElem?_cons_zero, List.getElem?_cons_succ, List.length_cons, List.length_nil, List.all_cons, List.all_nil, isCell_int, isCell_bool, isCell_ptr, isCell_slice, isCell_func, Bool.and_true, Bool.and_self, and_self, if_true, List.size_toArray, and_true, true_and, Nat.reduceLeDiff, Nat.le_refl, Bool.not_true, Bool.not_false, Bool.true_and, Bool.false_and, Bool.and_false, Int.reduceBNe, Int.reduceBEq, Int.reduceLT, Int.reduceLE, decide_true, decide_false, ldE_f, ha n hn101, hown, bitC_at hn101, ind_eq1]
        refine has_s hs2.b1 fun K3 h3 => ?_
        have hown3 := own_blk h3.b2.cells
        have hhas : hasR rs n = f n := by rw [Bool.eq_iff_iff, hasR_iff, hf n hn101]
        have hbne : binV .bool .neq (.bool (f n)) (.bool (f n)) = some (.bool false) := by rw [bin_neqb]; simp
        try simp only [bnd_some, brV_t, brV_f, brG_t, brG_f, newE_u, pickE_t, pickE_f, nilV_p, faV_p, cells_int, cells_bool, cells_ptr, cells_slice, cells_func, cells_agg, bin_eql, bin_neq, bin_lss, bin_leq, bin_gtr, bin_geq, bin_eqlb, bin_neqb, bin_eqlp, bin_eqlp0, bin_neqp, bin_neqp0, bin_eqls, bin_eqls0, un_not, un_neg, len_s, cap_s, ex_t, cv_i, callV_f, Option.bind_some, Option.map_some, Nat.zero_add, Nat.add_zero, Nat.reduceAdd, Nat.reduceMul, size_newB, size_setB, blk_newB_self, own_newB_self, setB_setB, List.getElem?_toArray, List.getElem?_cons_zero, List.getElem?_cons_succ, List.length_cons, List.length_nil, List.all_cons, List.all_nil, isCell_int, isCell_bool, isCell_ptr, isCell_slice, isCell_func, Bool.and_true, Bool.and_self, and_self, if_true, List.size_toArray, and_true, true_and, Nat.reduceLeDiff, Nat.le_refl, Bool.not_true, Bool.not_false, Bool.true_and, Bool.false_and, Bool.and_false, Int.reduceBNe, Int.reduceBEq, Int.reduceLT, Int.reduceLE, decide_true, decide_false, ldE_f, hown3, bitC_at hn101, hhas, hbne, and_true, true_and]
        refine next_s h3 fun K4 h4 => ?_
        have hown4 := own_blk h4.b2.cells
        have hnx : nextR rs n = q := next_is hok hlow (by omega) (by omega) (by omega) (fun m h1 h2 => by
          obtain ⟨k, rfl⟩ : ∃ k : Nat, m = k := ⟨m.toNat, by omega⟩
          exact (hf k (by omega)).1 (hall k (by omega) (by omega))) (by
          rcases hstop with h1 | h1
          · exact .inl (by omega)
          · by_cases h2 : q = 101
            · exact .inl (by omega)
            · refine .inr fun hm => ?_
              have := (hf q (by omega)).2 hm
              rw [h1] at this; cases this)
        have hq0 : ((q : Int) != (q : Int)) = false := by simp
        have hsb := sumB_b f n
        have w6 : IntKind.i64.wrap (cnt rs - sumB f n - ind (f n)) = cnt rs - sumB f (n + 1) := by
          have h : 0 ≤ ind (f n) ∧ ind (f n) ≤ 1 := by cases f n <;> simp [ind]
          rw [wrap_in (by omega)]; simp only [sumB]; omega
        have w5 : IntKind.i64.wrap ((n : Int) + 1) = ((n + 1 : Nat) : Int) := by rw [wrap_in (by omega)]; omega
        try simp only [bnd_some, brV_t, brV_f, brG_t, brG_f, newE_u, pickE_t, pickE_f, nilV_p, faV_p, cells_int, cells_bool, cells_ptr, cells_slice, cells_func, cells_agg, bin_eql, bin_neq, bin_lss, bin_leq, bin_gtr, bin_geq, bin_eqlb, bin_neqb, bin_eqlp, bin_eqlp0, bin_neqp, bin_neqp0, bin_eqls, bin_eqls0, un_not, un_neg, len_s, cap_s, ex_t, cv_i, callV_f, Option.bind_some, Option.map_some, Nat.zero_add, Nat.add_zero, Nat.reduceAdd, Nat.reduceMul, size_newB, size_setB, blk_newB_self, own_newB_self, setB_setB, List.getElem?_toArray, List.getElem?_cons_zero, List.getElem?_cons_succ, List.length_cons, List.length_nil, List.all_cons, List.all_nil, isCell_int, isCell_bool, isCell_ptr, isCell_slice, isCell_func, Bool.and_true, Bool.and_self, and_self, if_true, List.size_toArray, and_true, true_and, Nat.reduceLeDiff, Nat.le_refl, Bool.not_true, Bool.not_false, Bool.true_and, Bool.false_and, Bool.and_false, Int.reduceBNe, Int.reduceBEq, Int.reduceLT, Int.reduceLE, decide_true, decide_false, ldE_f, hown4, bitC_at hn101, hnx, hq0, and_true, true_and, ha n hn101, bin_sub, w6, bin_add, w5]
        exact ⟨⟨n + 1, rfl, by omega, rfl, h4.b1⟩, by show _ < _; omega⟩
    · have hn' : n = 101 := by omega
      subst hn'
      simp only [sounderlaw04_is_g127]
      try simp only [bnd_some, brV_t, brV_f, brG_t, brG_f, newE_u, pickE_t, pickE_f, nilV_p, faV_p, cells_int, cells_bool, cells_ptr, cells_slice, cells_func, cells_agg, bin_eql, bin_neq, bin_lss, bin_leq, bin_gtr, bin_geq, bin_eqlb, bin_neqb, bin_eqlp, bin_eqlp0, bin_neqp, bin_neqp0, bin_eqls, bin_eqls0, un_not, un_neg, len_s, cap_s, ex_t, cv_i, callV_f, Option.bind_some, Option.map_some, Nat.zero_add, Nat.add_zero, Nat.reduceAdd, Nat.reduceMul, size_newB, size_setB, blk_newB_self, own_newB_self, setB_setB, List.getElem?_toArray, List.getElem?_cons_zero, List.getElem?_cons_succ, List.length_cons, List.length_nil, List.all_cons, List.all_nil, isCell_int, isCell_bool, isCell_ptr, isCell_slice, isCell_func, Bool.and_true, Bool.and_self, and_self, if_true, List.size_toArray, and_true, true_and, Nat.reduceLeDiff, Nat.le_refl, Bool.not_true, Bool.not_false, Bool.true_and, Bool.false_and, Bool.and_false, Int.reduceBNe, Int.reduceBEq, Int.reduceLT, Int.reduceLE, decide_true, decide_false]
      have : ((cnt rs - sumB f 101) == 0) = true := by rw [hsum]; simp
      rw [this]
      exact hR K1 (hs1.drop.b1.drop)
end Go.Hc

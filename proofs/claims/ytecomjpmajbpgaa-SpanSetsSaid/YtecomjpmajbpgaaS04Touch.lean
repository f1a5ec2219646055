/- SpanTouch: what is there changes nothing; what is missing between two ranges makes one of them. -/
import Derived.Test.YtecomjpmajbpgaaS04Room
set_option linter.unusedSimpArgs false
set_option linter.unusedVariables false
namespace Go.Hc
open Go

theorem addL_in {rs : List Rng} (h : Okr rs) {lo hi : Int} (h0 : 0 ≤ lo) (hle : lo ≤ hi) (hm : hi ≤ 9007199254740991) (hin : ∀ n, lo ≤ n → n ≤ hi → Mem rs n) : addL rs lo hi = rs :=
  Okr.ext (addL_ok h h0 hle hm) h fun n => by
    rw [addL_mem h hle]
    exact ⟨fun h => h.elim id fun h => hin n h.1 h.2, .inl⟩
theorem cutL_in {rs : List Rng} (h : Okr rs) {b : Int} (hb : 0 ≤ b) (hin : ∀ n, Mem rs n → b ≤ n) : cutL rs b = rs :=
  Okr.ext (cutL_ok h hb) h fun n => by
    rw [cutL_mem h]
    exact ⟨fun h => h.1, fun h => ⟨h, hin n h⟩⟩
theorem minR_le {rs : List Rng} (h : Okr rs) {n : Int} (hn : Mem rs n) : max (minR rs) 0 ≤ n := by
  cases rs with
  | nil => obtain ⟨x, hx, _⟩ := hn; simp at hx
  | cons r l =>
    have := h.first hn
    have := h.each r (by simp)
    show max r.1 0 ≤ n
    omega
theorem bridge {rs : List Rng} (h : Okr rs) {j : Nat} (hj : j + 1 < rs.length) : addL rs (rs[j].2 + 1) (rs[j + 1].1 - 1) = rs.take j ++ (rs[j].1, rs[j + 1].2) :: rs.drop (j + 2) := by
  have hlt := h.lt (show j < j + 1 by omega) hj
  have hj1 := h.at (show j < rs.length by omega)
  have hj2 := h.at hj
  have e1 : lowI (rs[j].2 + 1 - 1) rs = j := by
    refine fi_eq (by omega) (fun i hi hij => ?_) (fun _ => ?_)
    · have := h.lt hij (show j < rs.length by omega)
      simp; omega
    · simp
  have e2 : topI (rs[j + 1].1 - 1 + 1) rs = j + 2 := by
    refine fi_eq (by omega) (fun i hi hij => ?_) (fun hh => ?_)
    · have := (h.le2 (show i ≤ j + 1 by omega) hj).2
      simp; omega
    · have := h.lt (show j + 1 < j + 2 by omega) hh
      simp; omega
  unfold addL addX
  rw [e1, e2, if_pos (by omega), getD_at (by omega), getD_at (i := j + 2 - 1) (by omega)]
  have e3 : (min (rs[j].2 + 1) rs[j].1, max (rs[j + 1].1 - 1) (rs[j + 2 - 1]'(by omega)).2) = (rs[j].1, rs[j + 1].2) := by
    have : j + 2 - 1 = j + 1 := by omega
    simp only [this]; congr 1 <;> omega
  rw [e3]
/-- one whose numbers are below 100 -/
def Low (rs : List Rng) : Prop := ∀ r ∈ rs, r.2 ≤ 99
theorem Low.add {rs : List Rng} (h : Low rs) {lo hi : Int} (hh : hi ≤ 99) (hok : Okr rs) (hle : lo ≤ hi) (h0 : 0 ≤ lo) : Low (addL rs lo hi) := fun r hr => by
  have hok' := addL_ok hok h0 hle (by omega)
  have e := hok'.each r hr
  have hm : Mem (addL rs lo hi) r.2 := ⟨r, hr, by omega, by omega⟩
  rcases (addL_mem hok hle).1 hm with ⟨x, hx, h1, h2⟩ | h1
  · have := h x hx; omega
  · omega

theorem Touch_1 {H0 K : Heap} {R : Value → Heap → Prop} {s was : Nat} {rs : List Rng} {v11 : Value} {which : Int} (hw : In64 which) (hlow : rs.length ≤ 40) (h : Sep H0 K [lstA rngE v11 rs.reverse, setA was 256 rs, setA s 256 rs])
    (hR : ∀ H', Sep H0 H' [] → R (.bool true) H') : sounderlaw04_SpanTouch_l101 (iv which) (ptr s) (ptr was) v11 (iv 0) R K := by
  refine ⟨fun y K => ∃ i : Nat, y = iv i ∧ i ≤ rs.length ∧ Sep H0 K [lstA rngE v11 rs.reverse, setA was 256 rs, setA s 256 rs], fun y _ => (match y with | .int _ i => (41 - i).toNat | _ => 0), ⟨0, rfl, by omega, h⟩, ?_⟩
  rintro y K ⟨i, rfl, hil, hs⟩
  have hok := hs.b1.set_ok.2.1
  obtain ⟨T, o⟩ := hs.list
  have hlen : rs.reverse.length = rs.length := List.length_reverse
  simp only [sounderlaw04_SpanTouch_s85, sounderlaw04_SpanTouch_g86, sounderlaw04_SpanTouch_g87, sounderlaw04_SpanTouch_g88, sounderlaw04_SpanTouch_g89]
  try simp only [bnd_some, brV_t, brV_f, brG_t, brG_f, newE_u, pickE_t, pickE_f, nilV_p, faV_p, cells_int, cells_bool, cells_ptr, cells_slice, cells_func, cells_agg, bin_eql, bin_neq, bin_lss, bin_leq, bin_gtr, bin_geq, bin_eqlb, bin_neqb, bin_eqlp, bin_eqlp0, bin_neqp, bin_neqp0, bin_eqls, bin_eqls0, un_not, un_neg, len_s, cap_s, ex_t, cv_i, callV_f, Option.bind_some, Option.map_some, Nat.zero_add, Nat.add_zero, Nat.reduceAdd, Nat.reduceMul, size_newB, size_setB, blk_newB_self, own_newB_self, setB_setB, List.getElem?_toArray, List.getElem?_cons_zero, List.getElem?_cons_succ, List.length_cons, List.length_nil, List.all_cons, List.all_nil, isCell_int, isCell_bool, isCell_ptr, isCell_slice, isCell_func, Bool.and_true, Bool.and_self, and_self, if_true, List.size_toArray, and_true, true_and, Nat.reduceLeDiff, Nat.le_refl, Bool.not_true, Bool.not_false, Bool.true_and, Bool.false_and, Bool.and_false, Int.reduceBNe, Int.reduceBEq, Int.reduceLT, Int.reduceLE, decide_true, decide_false, o.len, hlen]
  refine brV_d (fun hlt => ?_) (fun hge => ?_)
  · have hlt : i < rs.reverse.length := by omega
    obtain ⟨b, oo, c, i1, i2, i3, _⟩ := o.show.ix (by decide) hlt (rfl : (i : Int) = i)
    have i1' : ixSV 2 v11 (iv i) = _ := i1
    have c0 : c[oo]? = some (iv rs.reverse[i].1) := i3 0 (by decide)
    have c1 : c[oo + 1]? = some (iv rs.reverse[i].2) := i3 1 (by decide)
    have hmem : rs.reverse[i] ∈ rs := List.mem_reverse.1 (List.getElem_mem hlt)
    have he := hok.each _ hmem
    have nb1 : ¬ badR rs.reverse[i].1 rs.reverse[i].2 := by simp only [badR]; omega
    have nb2 : ¬ badR rs.reverse[i].2 rs.reverse[i].2 := by simp only [badR]; omega
    have a1 : addL rs rs.reverse[i].1 rs.reverse[i].2 = rs := addL_in hok (by omega) (by omega) (by omega) fun n h1 h2 => ⟨_, hmem, h1, h2⟩
    have a2 : addL rs rs.reverse[i].2 rs.reverse[i].2 = rs := addL_in hok (by omega) (by omega) (by omega) fun n h1 h2 => ⟨_, hmem, by omega, h2⟩
    have E1 : addE 256 rs rs.reverse[i].1 rs.reverse[i].2 = 0 := by unfold addE; rw [if_neg nb1, a1, if_neg (by omega)]
    have E2 : addE 256 rs rs.reverse[i].2 rs.reverse[i].2 = 0 := by unfold addE; rw [if_neg nb2, a2, if_neg (by omega)]
    try simp only [bnd_some, brV_t, brV_f, brG_t, brG_f, newE_u, pickE_t, pickE_f, nilV_p, faV_p, cells_int, cells_bool, cells_ptr, cells_slice, cells_func, cells_agg, bin_eql, bin_neq, bin_lss, bin_leq, bin_gtr, bin_geq, bin_eqlb, bin_neqb, bin_eqlp, bin_eqlp0, bin_neqp, bin_neqp0, bin_eqls, bin_eqls0, un_not, un_neg, len_s, cap_s, ex_t, cv_i, callV_f, Option.bind_some, Option.map_some, Nat.zero_add, Nat.add_zero, Nat.reduceAdd, Nat.reduceMul, size_newB, size_setB, blk_newB_self, own_newB_self, setB_setB, List.getElem?_toArray, List.getElem?_cons_zero, List.getElem?_cons_succ, List.length_cons, List.length_nil, List.all_cons, List.all_nil, isCell_int, isCell_bool, isCell_ptr, isCell_slice, isCell_func, Bool.and_true, Bool.and_self, and_self, if_true, List.size_toArray, and_true, true_and, Nat.reduceLeDiff, Nat.le_refl, Bool.not_true, Bool.not_false, Bool.true_and, Bool.false_and, Bool.and_false, Int.reduceBNe, Int.reduceBEq, Int.reduceLT, Int.reduceLE, decide_true, decide_false, ldE_f, i1', i2, c0, c1]
    refine add_c hs.b2 E1 (by unfold addS; rw [if_pos E1, a1]) fun K1 h1 => ?_
    obtain ⟨T', o'⟩ := h1.b1.list
    obtain ⟨b', oo', c', i1'', i2', i3', _⟩ := o'.show.ix (by decide) hlt (rfl : (i : Int) = i)
    have i1x : ixSV 2 v11 (iv i) = _ := i1''
    have c1' : c'[oo' + 1]? = some (iv rs.reverse[i].2) := i3' 1 (by decide)
    rw [i1'] at i1x
    have hbo := i1x
    simp only [Option.some.injEq, Value.pointer.injEq, Addr.mk.injEq, and_true] at hbo
    obtain ⟨rfl, rfl⟩ := hbo
    try simp only [bnd_some, brV_t, brV_f, brG_t, brG_f, newE_u, pickE_t, pickE_f, nilV_p, faV_p, cells_int, cells_bool, cells_ptr, cells_slice, cells_func, cells_agg, bin_eql, bin_neq, bin_lss, bin_leq, bin_gtr, bin_geq, bin_eqlb, bin_neqb, bin_eqlp, bin_eqlp0, bin_neqp, bin_neqp0, bin_eqls, bin_eqls0, un_not, un_neg, len_s, cap_s, ex_t, cv_i, callV_f, Option.bind_some, Option.map_some, Nat.zero_add, Nat.add_zero, Nat.reduceAdd, Nat.reduceMul, size_newB, size_setB, blk_newB_self, own_newB_self, setB_setB, List.getElem?_toArray, List.getElem?_cons_zero, List.getElem?_cons_succ, List.length_cons, List.length_nil, List.all_cons, List.all_nil, isCell_int, isCell_bool, isCell_ptr, isCell_slice, isCell_func, Bool.and_true, Bool.and_self, and_self, if_true, List.size_toArray, and_true, true_and, Nat.reduceLeDiff, Nat.le_refl, Bool.not_true, Bool.not_false, Bool.true_and, Bool.false_and, Bool.and_false, Int.reduceBNe, Int.reduceBEq, Int.reduceLT, Int.reduceLE, decide_true, decide_false, ldE_f, i1', i2', c1']
    refine add_c h1 E2 (by unfold addS; rw [if_pos E2, a2]) fun K2 h2 => ?_
    have w5 : IntKind.i64.wrap ((i : Int) + 1) = ((i + 1 : Nat) : Int) := by rw [wrap_in (by omega)]; omega
    try simp only [bnd_some, brV_t, brV_f, brG_t, brG_f, newE_u, pickE_t, pickE_f, nilV_p, faV_p, cells_int, cells_bool, cells_ptr, cells_slice, cells_func, cells_agg, bin_eql, bin_neq, bin_lss, bin_leq, bin_gtr, bin_geq, bin_eqlb, bin_neqb, bin_eqlp, bin_eqlp0, bin_neqp, bin_neqp0, bin_eqls, bin_eqls0, un_not, un_neg, len_s, cap_s, ex_t, cv_i, callV_f, Option.bind_some, Option.map_some, Nat.zero_add, Nat.add_zero, Nat.reduceAdd, Nat.reduceMul, size_newB, size_setB, blk_newB_self, own_newB_self, setB_setB, List.getElem?_toArray, List.getElem?_cons_zero, List.getElem?_cons_succ, List.length_cons, List.length_nil, List.all_cons, List.all_nil, isCell_int, isCell_bool, isCell_ptr, isCell_slice, isCell_func, Bool.and_true, Bool.and_self, and_self, if_true, List.size_toArray, and_true, true_and, Nat.reduceLeDiff, Nat.le_refl, Bool.not_true, Bool.not_false, Bool.true_and, Bool.false_and, Bool.and_false, Int.reduceBNe, Int.reduceBEq, Int.reduceLT, Int.reduceLE, decide_true, decide_false, bin_add, w5]
    exact ⟨⟨i + 1, rfl, by omega, h2.b2.b2⟩, by show _ < _; omega⟩
  · simp only [sounderlaw04_SpanTouch_g90, sounderlaw04_SpanTouch_g91]
    refine min_s hs.b2 ?_
    have hm : foldV max2V (iv (minR rs)) [.int .i64 0] = some (iv (max (minR rs) 0)) := max_iv
    have hmn : okN (max (minR rs) 0) := by
      unfold okN minR
      cases rs with
      | nil => exact ⟨by show (0 : Int) ≤ max (-1) 0; omega, by show max (-1 : Int) 0 ≤ 9007199254740991; omega⟩
      | cons r l => have := hok.each r (by simp); simp only [List.head?_cons]; omega
    try simp only [bnd_some, brV_t, brV_f, brG_t, brG_f, newE_u, pickE_t, pickE_f, nilV_p, faV_p, cells_int, cells_bool, cells_ptr, cells_slice, cells_func, cells_agg, bin_eql, bin_neq, bin_lss, bin_leq, bin_gtr, bin_geq, bin_eqlb, bin_neqb, bin_eqlp, bin_eqlp0, bin_neqp, bin_neqp0, bin_eqls, bin_eqls0, un_not, un_neg, len_s, cap_s, ex_t, cv_i, callV_f, Option.bind_some, Option.map_some, Nat.zero_add, Nat.add_zero, Nat.reduceAdd, Nat.reduceMul, size_newB, size_setB, blk_newB_self, own_newB_self, setB_setB, List.getElem?_toArray, List.getElem?_cons_zero, List.getElem?_cons_succ, List.length_cons, List.length_nil, List.all_cons, List.all_nil, isCell_int, isCell_bool, isCell_ptr, isCell_slice, isCell_func, Bool.and_true, Bool.and_self, and_self, if_true, List.size_toArray, and_true, true_and, Nat.reduceLeDiff, Nat.le_refl, Bool.not_true, Bool.not_false, Bool.true_and, Bool.false_and, Bool.and_false, Int.reduceBNe, Int.reduceBEq, Int.reduceLT, Int.reduceLE, decide_true, decide_false, hm]
    refine cut_c (e := 0) (rs' := rs) hs.b2 (if_pos hmn) (by unfold cutS; rw [if_pos hmn, cutL_in hok hmn.1 fun n hn => minR_le hok hn]) fun K1 h1 => ?_
    try simp only [bnd_some, brV_t, brV_f, brG_t, brG_f, newE_u, pickE_t, pickE_f, nilV_p, faV_p, cells_int, cells_bool, cells_ptr, cells_slice, cells_func, cells_agg, bin_eql, bin_neq, bin_lss, bin_leq, bin_gtr, bin_geq, bin_eqlb, bin_neqb, bin_eqlp, bin_eqlp0, bin_neqp, bin_neqp0, bin_eqls, bin_eqls0, un_not, un_neg, len_s, cap_s, ex_t, cv_i, callV_f, Option.bind_some, Option.map_some, Nat.zero_add, Nat.add_zero, Nat.reduceAdd, Nat.reduceMul, size_newB, size_setB, blk_newB_self, own_newB_self, setB_setB, List.getElem?_toArray, List.getElem?_cons_zero, List.getElem?_cons_succ, List.length_cons, List.length_nil, List.all_cons, List.all_nil, isCell_int, isCell_bool, isCell_ptr, isCell_slice, isCell_func, Bool.and_true, Bool.and_self, and_self, if_true, List.size_toArray, and_true, true_and, Nat.reduceLeDiff, Nat.le_refl, Bool.not_true, Bool.not_false, Bool.true_and, Bool.false_and, Bool.and_false, Int.reduceBNe, Int.reduceBEq, Int.reduceLT, Int.reduceLE, decide_true, decide_false]
    refine same_s h1.b2.b1 ?_
    simp only [show decide ((256 : Nat) = 256 ∧ rs = rs) = true from by simp]
    obtain ⟨T', o'⟩ := h1.b1.list
    try simp only [bnd_some, brV_t, brV_f, brG_t, brG_f, newE_u, pickE_t, pickE_f, nilV_p, faV_p, cells_int, cells_bool, cells_ptr, cells_slice, cells_func, cells_agg, bin_eql, bin_neq, bin_lss, bin_leq, bin_gtr, bin_geq, bin_eqlb, bin_neqb, bin_eqlp, bin_eqlp0, bin_neqp, bin_neqp0, bin_eqls, bin_eqls0, un_not, un_neg, len_s, cap_s, ex_t, cv_i, callV_f, Option.bind_some, Option.map_some, Nat.zero_add, Nat.add_zero, Nat.reduceAdd, Nat.reduceMul, size_newB, size_setB, blk_newB_self, own_newB_self, setB_setB, List.getElem?_toArray, List.getElem?_cons_zero, List.getElem?_cons_succ, List.length_cons, List.length_nil, List.all_cons, List.all_nil, isCell_int, isCell_bool, isCell_ptr, isCell_slice, isCell_func, Bool.and_true, Bool.and_self, and_self, if_true, List.size_toArray, and_true, true_and, Nat.reduceLeDiff, Nat.le_refl, Bool.not_true, Bool.not_false, Bool.true_and, Bool.false_and, Bool.and_false, Int.reduceBNe, Int.reduceBEq, Int.reduceLT, Int.reduceLE, decide_true, decide_false, o'.len, hlen]
    refine brV_d (fun hlt2 => ?_) (fun hge2 => ?_)
    · try simp only [bnd_some, brV_t, brV_f, brG_t, brG_f, newE_u, pickE_t, pickE_f, nilV_p, faV_p, cells_int, cells_bool, cells_ptr, cells_slice, cells_func, cells_agg, bin_eql, bin_neq, bin_lss, bin_leq, bin_gtr, bin_geq, bin_eqlb, bin_neqb, bin_eqlp, bin_eqlp0, bin_neqp, bin_neqp0, bin_eqls, bin_eqls0, un_not, un_neg, len_s, cap_s, ex_t, cv_i, callV_f, Option.bind_some, Option.map_some, Nat.zero_add, Nat.add_zero, Nat.reduceAdd, Nat.reduceMul, size_newB, size_setB, blk_newB_self, own_newB_self, setB_setB, List.getElem?_toArray, List.getElem?_cons_zero, List.getElem?_cons_succ, List.length_cons, List.length_nil, List.all_cons, List.all_nil, isCell_int, isCell_bool, isCell_ptr, isCell_slice, isCell_func, Bool.and_true, Bool.and_self, and_self, if_true, List.size_toArray, and_true, true_and, Nat.reduceLeDiff, Nat.le_refl, Bool.not_true, Bool.not_false, Bool.true_and, Bool.false_and, Bool.and_false, Int.reduceBNe, Int.reduceBEq, Int.reduceLT, Int.reduceLE, decide_true, decide_false, o'.len, hlen, decide_eq_true hlt2]
      refine same_s h1.b2.b1 ?_
      simp only [show decide ((256 : Nat) = 256 ∧ rs = rs) = true from by simp]
      try simp only [bnd_some, brV_t, brV_f, brG_t, brG_f, newE_u, pickE_t, pickE_f, nilV_p, faV_p, cells_int, cells_bool, cells_ptr, cells_slice, cells_func, cells_agg, bin_eql, bin_neq, bin_lss, bin_leq, bin_gtr, bin_geq, bin_eqlb, bin_neqb, bin_eqlp, bin_eqlp0, bin_neqp, bin_neqp0, bin_eqls, bin_eqls0, un_not, un_neg, len_s, cap_s, ex_t, cv_i, callV_f, Option.bind_some, Option.map_some, Nat.zero_add, Nat.add_zero, Nat.reduceAdd, Nat.reduceMul, size_newB, size_setB, blk_newB_self, own_newB_self, setB_setB, List.getElem?_toArray, List.getElem?_cons_zero, List.getElem?_cons_succ, List.length_cons, List.length_nil, List.all_cons, List.all_nil, isCell_int, isCell_bool, isCell_ptr, isCell_slice, isCell_func, Bool.and_true, Bool.and_self, and_self, if_true, List.size_toArray, and_true, true_and, Nat.reduceLeDiff, Nat.le_refl, Bool.not_true, Bool.not_false, Bool.true_and, Bool.false_and, Bool.and_false, Int.reduceBNe, Int.reduceBEq, Int.reduceLT, Int.reduceLE, decide_true, decide_false]
      refine works_s h1 fun H' h' => ?_
      exact hR H' h'.drop.drop.drop
    · have hge2 : 2 ≤ rs.length := by omega
      have w1 : IntKind.i64.wrap ((rs.length : Int) - 1) = ((rs.length - 1 : Nat) : Int) := by rw [wrap_in (by omega)]; omega
      simp only [sounderlaw04_SpanTouch_g92, sounderlaw04_SpanTouch_g93, sounderlaw04_SpanTouch_g94, sounderlaw04_SpanTouch_g95, sounderlaw04_SpanTouch_g96]
      try simp only [bnd_some, brV_t, brV_f, brG_t, brG_f, newE_u, pickE_t, pickE_f, nilV_p, faV_p, cells_int, cells_bool, cells_ptr, cells_slice, cells_func, cells_agg, bin_eql, bin_neq, bin_lss, bin_leq, bin_gtr, bin_geq, bin_eqlb, bin_neqb, bin_eqlp, bin_eqlp0, bin_neqp, bin_neqp0, bin_eqls, bin_eqls0, un_not, un_neg, len_s, cap_s, ex_t, cv_i, callV_f, Option.bind_some, Option.map_some, Nat.zero_add, Nat.add_zero, Nat.reduceAdd, Nat.reduceMul, size_newB, size_setB, blk_newB_self, own_newB_self, setB_setB, List.getElem?_toArray, List.getElem?_cons_zero, List.getElem?_cons_succ, List.length_cons, List.length_nil, List.all_cons, List.all_nil, isCell_int, isCell_bool, isCell_ptr, isCell_slice, isCell_func, Bool.and_true, Bool.and_self, and_self, if_true, List.size_toArray, and_true, true_and, Nat.reduceLeDiff, Nat.le_refl, Bool.not_true, Bool.not_false, Bool.true_and, Bool.false_and, Bool.and_false, Int.reduceBNe, Int.reduceBEq, Int.reduceLT, Int.reduceLE, decide_true, decide_false, o'.len, hlen, bin_sub, w1]
      refine Bring_ev hw (by omega) ?_
      have hb := bring_r (i := which) (n := ((rs.length - 1 : Nat) : Int)) (by omega)
      obtain ⟨k, hk⟩ : ∃ k : Nat, (k : Int) = bring which ((rs.length - 1 : Nat) : Int) := ⟨(bring which ((rs.length - 1 : Nat) : Int)).toNat, by omega⟩
      rw [← hk] at hb ⊢
      have hk2 : k + 1 < rs.length := by omega
      obtain ⟨j, hj⟩ : ∃ j, j = rs.length - 2 - k := ⟨_, rfl⟩
      have w2 : IntKind.i64.wrap ((k : Int) + 1) = ((k + 1 : Nat) : Int) := by rw [wrap_in (by omega)]; omega
      have r0 : rs.reverse[k]'(by omega) = rs[j + 1]'(by omega) := by rw [List.getElem_reverse]; congr 1; omega
      have r1 : rs.reverse[k + 1]'(by omega) = rs[j]'(by omega) := by rw [List.getElem_reverse]; congr 1; omega
      obtain ⟨b, oo, c, i1, i2, i3, _⟩ := o'.show.ix (by decide) (show k < rs.reverse.length by omega) (rfl : (k : Int) = k)
      obtain ⟨b', oo', c', j1, j2, j3, _⟩ := o'.show.ix (by decide) (show k + 1 < rs.reverse.length by omega) (rfl : ((k + 1 : Nat) : Int) = (k + 1 : Nat))
      rw [r0] at i3; rw [r1] at j3
      have i1' : ixSV 2 v11 (iv k) = _ := i1
      have j1' : ixSV 2 v11 (iv ((k + 1 : Nat) : Int)) = _ := j1
      have c0 : c[oo]? = some (iv (rs[j + 1]'(by omega)).1) := i3 0 (by decide)
      have c1 : c[oo + 1]? = some (iv (rs[j + 1]'(by omega)).2) := i3 1 (by decide)
      have d0 : c'[oo']? = some (iv (rs[j]'(by omega)).1) := j3 0 (by decide)
      have d1 : c'[oo' + 1]? = some (iv (rs[j]'(by omega)).2) := j3 1 (by decide)
      have g1 := hok.at (show j < rs.length by omega)
      have g2 := hok.at (show j + 1 < rs.length by omega)
      have g3 := hok.lt (show j < j + 1 by omega) (by omega)
      have w3 : IntKind.i64.wrap ((rs[j]'(by omega)).2 + 1) = (rs[j]'(by omega)).2 + 1 := wrap_in (by omega)
      have w4 : IntKind.i64.wrap ((rs[j + 1]'(by omega)).1 - 1) = (rs[j + 1]'(by omega)).1 - 1 := wrap_in (by omega)
      try simp only [bnd_some, brV_t, brV_f, brG_t, brG_f, newE_u, pickE_t, pickE_f, nilV_p, faV_p, cells_int, cells_bool, cells_ptr, cells_slice, cells_func, cells_agg, bin_eql, bin_neq, bin_lss, bin_leq, bin_gtr, bin_geq, bin_eqlb, bin_neqb, bin_eqlp, bin_eqlp0, bin_neqp, bin_neqp0, bin_eqls, bin_eqls0, un_not, un_neg, len_s, cap_s, ex_t, cv_i, callV_f, Option.bind_some, Option.map_some, Nat.zero_add, Nat.add_zero, Nat.reduceAdd, Nat.reduceMul, size_newB, size_setB, blk_newB_self, own_newB_self, setB_setB, List.getElem?_toArray, List.getElem?_cons_zero, List.getElem?_cons_succ, List.length_cons, List.length_nil, List.all_cons, List.all_nil, isCell_int, isCell_bool, isCell_ptr, isCell_slice, isCell_func, Bool.and_true, Bool.and_self, and_self, if_true, List.size_toArray, and_true, true_and, Nat.reduceLeDiff, Nat.le_refl, Bool.not_true, Bool.not_false, Bool.true_and, Bool.false_and, Bool.and_false, Int.reduceBNe, Int.reduceBEq, Int.reduceLT, Int.reduceLE, decide_true, decide_false, ldE_f, bin_add, bin_sub, w2, i1', j1', i2, j2, c0, d1, w3, w4]
      have hbr := bridge hok (j := j) (by omega)
      have hbl : (addL rs ((rs[j]'(by omega)).2 + 1) ((rs[j + 1]'(by omega)).1 - 1)).length = rs.length - 1 := by rw [hbr]; simp; omega
      have hE : addE 256 rs ((rs[j]'(by omega)).2 + 1) ((rs[j + 1]'(by omega)).1 - 1) = 0 := by
        unfold addE; rw [if_neg (by simp only [badR]; omega), if_neg (by omega)]
      refine add_c h1 hE (by unfold addS; rw [if_pos hE]) fun K2 h2 => ?_
      have again : ∀ {K : Heap} {Qs : List Asr}, Sep H0 K (lstA rngE v11 rs.reverse :: Qs) → ∃ c c' : Array Value, blk K b = some c ∧ blk K b' = some c' ∧ c[oo]? = some (iv (rs[j + 1]'(by omega)).1) ∧ c[oo + 1]? = some (iv (rs[j + 1]'(by omega)).2) ∧ c'[oo']? = some (iv (rs[j]'(by omega)).1) ∧ c'[oo' + 1]? = some (iv (rs[j]'(by omega)).2) := fun {K Qs} hh => by
        obtain ⟨T2, o2⟩ := hh.list
        obtain ⟨b2, p2, c2, x1, x2, x3, _⟩ := o2.show.ix (by decide) (show k < rs.reverse.length by omega) (rfl : (k : Int) = k)
        obtain ⟨b3, p3, c3, y1, y2, y3, _⟩ := o2.show.ix (by decide) (show k + 1 < rs.reverse.length by omega) (rfl : ((k + 1 : Nat) : Int) = (k + 1 : Nat))
        rw [r0] at x3; rw [r1] at y3
        rw [i1] at x1; rw [j1] at y1
        simp only [Option.some.injEq, Value.pointer.injEq, Addr.mk.injEq, and_true] at x1 y1
        obtain ⟨rfl, rfl⟩ := x1
        obtain ⟨rfl, rfl⟩ := y1
        exact ⟨c2, c3, x2, y2, x3 0 (by decide), x3 1 (by decide), y3 0 (by decide), y3 1 (by decide)⟩
      obtain ⟨ca, cb, k1, k2, k3, k4, k5, k6⟩ := again h2.b1
      try simp only [bnd_some, brV_t, brV_f, brG_t, brG_f, newE_u, pickE_t, pickE_f, nilV_p, faV_p, cells_int, cells_bool, cells_ptr, cells_slice, cells_func, cells_agg, bin_eql, bin_neq, bin_lss, bin_leq, bin_gtr, bin_geq, bin_eqlb, bin_neqb, bin_eqlp, bin_eqlp0, bin_neqp, bin_neqp0, bin_eqls, bin_eqls0, un_not, un_neg, len_s, cap_s, ex_t, cv_i, callV_f, Option.bind_some, Option.map_some, Nat.zero_add, Nat.add_zero, Nat.reduceAdd, Nat.reduceMul, size_newB, size_setB, blk_newB_self, own_newB_self, setB_setB, List.getElem?_toArray, List.getElem?_cons_zero, List.getElem?_cons_succ, List.length_cons, List.length_nil, List.all_cons, List.all_nil, isCell_int, isCell_bool, isCell_ptr, isCell_slice, isCell_func, Bool.and_true, Bool.and_self, and_self, if_true, List.size_toArray, and_true, true_and, Nat.reduceLeDiff, Nat.le_refl, Bool.not_true, Bool.not_false, Bool.true_and, Bool.false_and, Bool.and_false, Int.reduceBNe, Int.reduceBEq, Int.reduceLT, Int.reduceLE, decide_true, decide_false, ldE_f, k1, k2, k3, k6]
      refine ranges_s h2 fun v14 K3 h3 => ?_
      obtain ⟨T3, o3⟩ := h3.list
      obtain ⟨T4, o4⟩ := h3.b2.list
      have hnl : (addL rs ((rs[j]'(by omega)).2 + 1) ((rs[j + 1]'(by omega)).1 - 1)).reverse.length = rs.length - 1 := by rw [List.length_reverse, hbl]
      have hn0 : ((((addL rs ((rs[j]'(by omega)).2 + 1) ((rs[j + 1]'(by omega)).1 - 1)).reverse.length : Nat) : Int) == ((rs.length - 1 : Nat) : Int)) = true := by rw [hnl]; simp
      obtain ⟨b5, p5, c5, z1, z2, z3, z4⟩ := o3.show.ix (by decide) (show k < (addL rs ((rs[j]'(by omega)).2 + 1) ((rs[j + 1]'(by omega)).1 - 1)).reverse.length by omega) (rfl : (k : Int) = k)
      have hel : (addL rs ((rs[j]'(by omega)).2 + 1) ((rs[j + 1]'(by omega)).1 - 1)).reverse[k]'(by omega) = ((rs[j]'(by omega)).1, (rs[j + 1]'(by omega)).2) := by
        have q : (addL rs ((rs[j]'(by omega)).2 + 1) ((rs[j + 1]'(by omega)).1 - 1))[j]? = some ((rs[j]'(by omega)).1, (rs[j + 1]'(by omega)).2) := by
          rw [hbr, List.getElem?_append_right (by simp; omega)]
          have : j - (List.take j rs).length = 0 := by simp; omega
          rw [this]; rfl
        have q2 : (addL rs ((rs[j]'(by omega)).2 + 1) ((rs[j + 1]'(by omega)).1 - 1)).reverse[k]? = some ((rs[j]'(by omega)).1, (rs[j + 1]'(by omega)).2) := by
          rw [List.getElem?_reverse (by omega), ← q]; congr 1; omega
        exact (List.getElem?_eq_some_iff.1 q2).2
      rw [hel] at z4
      have z1' : ixSV 2 v14 (iv k) = _ := z1
      have z4' : ldE true 2 (.pointer (some ⟨b5, p5, none⟩)) K3 = some (.agg (rngC ((rs[j]'(by omega)).1, (rs[j + 1]'(by omega)).2))) := z4
      obtain ⟨ca3, cb3, l1, l2, l3, l4, l5, l6⟩ := again h3.b2
      have heq : ∀ p : Rng, binV (.agg [true, true]) .eql (.agg (rngC p)) (.agg (rngC p)) = some (.bool true) := fun p => by
        simp only [binV, eqV, isO, rngC, cellsEq, cellEq, if_true, beq_self_eq_true, Bool.and_true]
      try simp only [bnd_some, brV_t, brV_f, brG_t, brG_f, newE_u, pickE_t, pickE_f, nilV_p, faV_p, cells_int, cells_bool, cells_ptr, cells_slice, cells_func, cells_agg, bin_eql, bin_neq, bin_lss, bin_leq, bin_gtr, bin_geq, bin_eqlb, bin_neqb, bin_eqlp, bin_eqlp0, bin_neqp, bin_neqp0, bin_eqls, bin_eqls0, un_not, un_neg, len_s, cap_s, ex_t, cv_i, callV_f, Option.bind_some, Option.map_some, Nat.zero_add, Nat.add_zero, Nat.reduceAdd, Nat.reduceMul, size_newB, size_setB, blk_newB_self, own_newB_self, setB_setB, List.getElem?_toArray, List.getElem?_cons_zero, List.getElem?_cons_succ, List.length_cons, List.length_nil, List.all_cons, List.all_nil, isCell_int, isCell_bool, isCell_ptr, isCell_slice, isCell_func, Bool.and_true, Bool.and_self, and_self, if_true, List.size_toArray, and_true, true_and, Nat.reduceLeDiff, Nat.le_refl, Bool.not_true, Bool.not_false, Bool.true_and, Bool.false_and, Bool.and_false, Int.reduceBNe, Int.reduceBEq, Int.reduceLT, Int.reduceLE, decide_true, decide_false, ldE_f, o3.len, o4.len, hlen, hn0, bin_sub, bin_add, w1, w2, z1', z4', i1', j1', l1, l2, l5, l4, rng_b, heq]
      refine works_s h3 fun K4 h4 => ?_
      obtain ⟨ca4, cb4, m1, m2, m3, m4, m5, m6⟩ := again h4.b2
      obtain ⟨T5, o5⟩ := h4.list
      obtain ⟨b6, p6, c6, y1, y2, y3, y4⟩ := o5.show.ix (by decide) (show k < (addL rs ((rs[j]'(by omega)).2 + 1) ((rs[j + 1]'(by omega)).1 - 1)).reverse.length by omega) (rfl : (k : Int) = k)
      rw [z1] at y1
      simp only [Option.some.injEq, Value.pointer.injEq, Addr.mk.injEq, and_true] at y1
      obtain ⟨rfl, rfl⟩ := y1
      rw [hel] at y4
      have y4' : ldE true 2 (.pointer (some ⟨b5, p5, none⟩)) K4 = some (.agg (rngC ((rs[j]'(by omega)).1, (rs[j + 1]'(by omega)).2))) := y4
      try simp only [bnd_some, brV_t, brV_f, brG_t, brG_f, newE_u, pickE_t, pickE_f, nilV_p, faV_p, cells_int, cells_bool, cells_ptr, cells_slice, cells_func, cells_agg, bin_eql, bin_neq, bin_lss, bin_leq, bin_gtr, bin_geq, bin_eqlb, bin_neqb, bin_eqlp, bin_eqlp0, bin_neqp, bin_neqp0, bin_eqls, bin_eqls0, un_not, un_neg, len_s, cap_s, ex_t, cv_i, callV_f, Option.bind_some, Option.map_some, Nat.zero_add, Nat.add_zero, Nat.reduceAdd, Nat.reduceMul, size_newB, size_setB, blk_newB_self, own_newB_self, setB_setB, List.getElem?_toArray, List.getElem?_cons_zero, List.getElem?_cons_succ, List.length_cons, List.length_nil, List.all_cons, List.all_nil, isCell_int, isCell_bool, isCell_ptr, isCell_slice, isCell_func, Bool.and_true, Bool.and_self, and_self, if_true, List.size_toArray, and_true, true_and, Nat.reduceLeDiff, Nat.le_refl, Bool.not_true, Bool.not_false, Bool.true_and, Bool.false_and, Bool.and_false, Int.reduceBNe, Int.reduceBEq, Int.reduceLT, Int.reduceLE, decide_true, decide_false, ldE_f, m1, m2, m4, m5, y4', and_true, true_and]
      exact hR K4 h4.drop.drop.drop.drop
theorem STouch_ev {H : Heap} {r : Int} {v : Value} {l : List (Fin 2 → Int)} {R : Value → Heap → Prop} (hv : ShowA (intsE 2) H v l) (hin : ∀ y ∈ l, ∀ i, In64 (y i)) (hr : In64 r) (hR : ∀ H', Ext [] H H' → R (.bool true) H') : EvL P N.sounderlaw04_SpanTouch #[v, iv r] H R := by
  refine sounderlaw04_SpanTouch_ev0 _ _ _ _ ?_
  simp only [sounderlaw04_SpanTouch, sounderlaw04_SpanTouch_g71, sounderlaw04_SpanTouch_g72, sounderlaw04_SpanTouch_g73, sounderlaw04_SpanTouch_g74, sounderlaw04_SpanTouch_g75]
  refine new_s (Sep.nil H) (by decide) fun s H1 h1 => ?_
  try simp only [bnd_some, brV_t, brV_f, brG_t, brG_f, newE_u, pickE_t, pickE_f, nilV_p, faV_p, cells_int, cells_bool, cells_ptr, cells_slice, cells_func, cells_agg, bin_eql, bin_neq, bin_lss, bin_leq, bin_gtr, bin_geq, bin_eqlb, bin_neqb, bin_eqlp, bin_eqlp0, bin_neqp, bin_neqp0, bin_eqls, bin_eqls0, un_not, un_neg, len_s, cap_s, ex_t, cv_i, callV_f, Option.bind_some, Option.map_some, Nat.zero_add, Nat.add_zero, Nat.reduceAdd, Nat.reduceMul, size_newB, size_setB, blk_newB_self, own_newB_self, setB_setB, List.getElem?_toArray, List.getElem?_cons_zero, List.getElem?_cons_succ, List.length_cons, List.length_nil, List.all_cons, List.all_nil, isCell_int, isCell_bool, isCell_ptr, isCell_slice, isCell_func, Bool.and_true, Bool.and_self, and_self, if_true, List.size_toArray, and_true, true_and, Nat.reduceLeDiff, Nat.le_refl, Bool.not_true, Bool.not_false, Bool.true_and, Bool.false_and, Bool.and_false, Int.reduceBNe, Int.reduceBEq, Int.reduceLT, Int.reduceLE, decide_true, decide_false, Int.reduceToNat, sounderlaw04_SpanTouch_l105]
  refine ⟨fun y K => ∃ (i : Nat) (rs : List Rng), y = iv i ∧ i ≤ 30 ∧ i ≤ l.length ∧ rs.length ≤ i ∧ Sep H K [setA s 256 rs],
    fun y _ => (match y with | .int _ i => (31 - i).toNat | _ => 0), ⟨0, [], rfl, by omega, by omega, by simp, h1⟩, ?_⟩
  rintro y K ⟨i, rs, rfl, hi30, hil, hri, hs⟩
  have hvK := hv.ext hs.only
  have hsm := hv.small
  have fin : sounderlaw04_SpanTouch_g82 (fun x1 x5 x10 H => sounderlaw04_SpanTouch_g83 (fun x1 x5 x10 x11 H => sounderlaw04_SpanTouch_g84 (fun x1 x5 x10 x11 x12 H => sounderlaw04_SpanTouch_l101 x1 x5 x10 x11 x12 R H) x1 x5 x10 x11 H) x1 x5 x10 H) (iv r) (ptr s) K := by
    simp only [sounderlaw04_SpanTouch_g82, sounderlaw04_SpanTouch_g83, sounderlaw04_SpanTouch_g84]
    refine copy_s hs fun was K1 h1 => ?_
    refine ranges_s h1.b1 fun v11 K2 h2 => ?_
    exact Touch_1 (rs := rs) hr (by omega) h2.b1.b2.b2 fun H' h' => hR H' h'.only
  simp only [sounderlaw04_SpanTouch_s76, sounderlaw04_SpanTouch_g77, sounderlaw04_SpanTouch_g78, sounderlaw04_SpanTouch_g79, sounderlaw04_SpanTouch_g80, sounderlaw04_SpanTouch_g81]
  try simp only [bnd_some, brV_t, brV_f, brG_t, brG_f, newE_u, pickE_t, pickE_f, nilV_p, faV_p, cells_int, cells_bool, cells_ptr, cells_slice, cells_func, cells_agg, bin_eql, bin_neq, bin_lss, bin_leq, bin_gtr, bin_geq, bin_eqlb, bin_neqb, bin_eqlp, bin_eqlp0, bin_neqp, bin_neqp0, bin_eqls, bin_eqls0, un_not, un_neg, len_s, cap_s, ex_t, cv_i, callV_f, Option.bind_some, Option.map_some, Nat.zero_add, Nat.add_zero, Nat.reduceAdd, Nat.reduceMul, size_newB, size_setB, blk_newB_self, own_newB_self, setB_setB, List.getElem?_toArray, List.getElem?_cons_zero, List.getElem?_cons_succ, List.length_cons, List.length_nil, List.all_cons, List.all_nil, isCell_int, isCell_bool, isCell_ptr, isCell_slice, isCell_func, Bool.and_true, Bool.and_self, and_self, if_true, List.size_toArray, and_true, true_and, Nat.reduceLeDiff, Nat.le_refl, Bool.not_true, Bool.not_false, Bool.true_and, Bool.false_and, Bool.and_false, Int.reduceBNe, Int.reduceBEq, Int.reduceLT, Int.reduceLE, decide_true, decide_false, hvK.len]
  refine brV_d (fun hlt => ?_) (fun hge => ?_)
  case refine_2 => (try simp only [bnd_some, brV_t, brV_f, brG_t, brG_f, newE_u, pickE_t, pickE_f, nilV_p, faV_p, cells_int, cells_bool, cells_ptr, cells_slice, cells_func, cells_agg, bin_eql, bin_neq, bin_lss, bin_leq, bin_gtr, bin_geq, bin_eqlb, bin_neqb, bin_eqlp, bin_eqlp0, bin_neqp, bin_neqp0, bin_eqls, bin_eqls0, un_not, un_neg, len_s, cap_s, ex_t, cv_i, callV_f, Option.bind_some, Option.map_some, Nat.zero_add, Nat.add_zero, Nat.reduceAdd, Nat.reduceMul, size_newB, size_setB, blk_newB_self, own_newB_self, setB_setB, List.getElem?_toArray, List.getElem?_cons_zero, List.getElem?_cons_succ, List.length_cons, List.length_nil, List.all_cons, List.all_nil, isCell_int, isCell_bool, isCell_ptr, isCell_slice, isCell_func, Bool.and_true, Bool.and_self, and_self, if_true, List.size_toArray, and_true, true_and, Nat.reduceLeDiff, Nat.le_refl, Bool.not_true, Bool.not_false, Bool.true_and, Bool.false_and, Bool.and_false, Int.reduceBNe, Int.reduceBEq, Int.reduceLT, Int.reduceLE, decide_true, decide_false]); exact fin
  try simp only [bnd_some, brV_t, brV_f, brG_t, brG_f, newE_u, pickE_t, pickE_f, nilV_p, faV_p, cells_int, cells_bool, cells_ptr, cells_slice, cells_func, cells_agg, bin_eql, bin_neq, bin_lss, bin_leq, bin_gtr, bin_geq, bin_eqlb, bin_neqb, bin_eqlp, bin_eqlp0, bin_neqp, bin_neqp0, bin_eqls, bin_eqls0, un_not, un_neg, len_s, cap_s, ex_t, cv_i, callV_f, Option.bind_some, Option.map_some, Nat.zero_add, Nat.add_zero, Nat.reduceAdd, Nat.reduceMul, size_newB, size_setB, blk_newB_self, own_newB_self, setB_setB, List.getElem?_toArray, List.getElem?_cons_zero, List.getElem?_cons_succ, List.length_cons, List.length_nil, List.all_cons, List.all_nil, isCell_int, isCell_bool, isCell_ptr, isCell_slice, isCell_func, Bool.and_true, Bool.and_self, and_self, if_true, List.size_toArray, and_true, true_and, Nat.reduceLeDiff, Nat.le_refl, Bool.not_true, Bool.not_false, Bool.true_and, Bool.false_and, Bool.and_false, Int.reduceBNe, Int.reduceBEq, Int.reduceLT, Int.reduceLE, decide_true, decide_false]
  refine brV_d (fun hlt40 => ?_) (fun hge => ?_)
  case refine_2 => (try simp only [bnd_some, brV_t, brV_f, brG_t, brG_f, newE_u, pickE_t, pickE_f, nilV_p, faV_p, cells_int, cells_bool, cells_ptr, cells_slice, cells_func, cells_agg, bin_eql, bin_neq, bin_lss, bin_leq, bin_gtr, bin_geq, bin_eqlb, bin_neqb, bin_eqlp, bin_eqlp0, bin_neqp, bin_neqp0, bin_eqls, bin_eqls0, un_not, un_neg, len_s, cap_s, ex_t, cv_i, callV_f, Option.bind_some, Option.map_some, Nat.zero_add, Nat.add_zero, Nat.reduceAdd, Nat.reduceMul, size_newB, size_setB, blk_newB_self, own_newB_self, setB_setB, List.getElem?_toArray, List.getElem?_cons_zero, List.getElem?_cons_succ, List.length_cons, List.length_nil, List.all_cons, List.all_nil, isCell_int, isCell_bool, isCell_ptr, isCell_slice, isCell_func, Bool.and_true, Bool.and_self, and_self, if_true, List.size_toArray, and_true, true_and, Nat.reduceLeDiff, Nat.le_refl, Bool.not_true, Bool.not_false, Bool.true_and, Bool.false_and, Bool.and_false, Int.reduceBNe, Int.reduceBEq, Int.reduceLT, Int.reduceLE, decide_true, decide_false]); exact fin
  have hil' : i < l.length := by omega
  obtain ⟨b, o, c, hx, hb, hc, hld⟩ := hvK.ix (by decide) hil' (rfl : (i : Int) = i)
  have hx' : ixSV 2 v (iv i) = _ := hx
  have hld' : ldE true 2 (.pointer (some ⟨b, o, none⟩)) K = some (.agg ((intsE 2).c l[i])) := hld
  try simp only [bnd_some, brV_t, brV_f, brG_t, brG_f, newE_u, pickE_t, pickE_f, nilV_p, faV_p, cells_int, cells_bool, cells_ptr, cells_slice, cells_func, cells_agg, bin_eql, bin_neq, bin_lss, bin_leq, bin_gtr, bin_geq, bin_eqlb, bin_neqb, bin_eqlp, bin_eqlp0, bin_neqp, bin_neqp0, bin_eqls, bin_eqls0, un_not, un_neg, len_s, cap_s, ex_t, cv_i, callV_f, Option.bind_some, Option.map_some, Nat.zero_add, Nat.add_zero, Nat.reduceAdd, Nat.reduceMul, size_newB, size_setB, blk_newB_self, own_newB_self, setB_setB, List.getElem?_toArray, List.getElem?_cons_zero, List.getElem?_cons_succ, List.length_cons, List.length_nil, List.all_cons, List.all_nil, isCell_int, isCell_bool, isCell_ptr, isCell_slice, isCell_func, Bool.and_true, Bool.and_self, and_self, if_true, List.size_toArray, and_true, true_and, Nat.reduceLeDiff, Nat.le_refl, Bool.not_true, Bool.not_false, Bool.true_and, Bool.false_and, Bool.and_false, Int.reduceBNe, Int.reduceBEq, Int.reduceLT, Int.reduceLE, decide_true, decide_false, hx', hld']
  refine row_s hs (hin _ (List.getElem_mem hil')) fun K1 h1 => ?_
  try simp only [bnd_some, brV_t, brV_f, brG_t, brG_f, newE_u, pickE_t, pickE_f, nilV_p, faV_p, cells_int, cells_bool, cells_ptr, cells_slice, cells_func, cells_agg, bin_eql, bin_neq, bin_lss, bin_leq, bin_gtr, bin_geq, bin_eqlb, bin_neqb, bin_eqlp, bin_eqlp0, bin_neqp, bin_neqp0, bin_eqls, bin_eqls0, un_not, un_neg, len_s, cap_s, ex_t, cv_i, callV_f, Option.bind_some, Option.map_some, Nat.zero_add, Nat.add_zero, Nat.reduceAdd, Nat.reduceMul, size_newB, size_setB, blk_newB_self, own_newB_self, setB_setB, List.getElem?_toArray, List.getElem?_cons_zero, List.getElem?_cons_succ, List.length_cons, List.length_nil, List.all_cons, List.all_nil, isCell_int, isCell_bool, isCell_ptr, isCell_slice, isCell_func, Bool.and_true, Bool.and_self, and_self, if_true, List.size_toArray, and_true, true_and, Nat.reduceLeDiff, Nat.le_refl, Bool.not_true, Bool.not_false, Bool.true_and, Bool.false_and, Bool.and_false, Int.reduceBNe, Int.reduceBEq, Int.reduceLT, Int.reduceLE, decide_true, decide_false]
  have hok := hs.set_ok
  have hrb := row_b l[i]
  have hlen := addL_few hok.2.1 hrb.2.1
  have hE : addE 256 rs (rowLo l[i]) (rowHi l[i]) = 0 := by unfold addE; rw [if_neg (row_bad _), if_neg (by omega)]
  refine add_c h1 hE (by unfold addS; rw [if_pos hE]) fun K2 h2 => ?_
  have w5 : IntKind.i64.wrap ((i : Int) + 1) = ((i + 1 : Nat) : Int) := by rw [wrap_in (by omega)]; omega
  try simp only [bnd_some, brV_t, brV_f, brG_t, brG_f, newE_u, pickE_t, pickE_f, nilV_p, faV_p, cells_int, cells_bool, cells_ptr, cells_slice, cells_func, cells_agg, bin_eql, bin_neq, bin_lss, bin_leq, bin_gtr, bin_geq, bin_eqlb, bin_neqb, bin_eqlp, bin_eqlp0, bin_neqp, bin_neqp0, bin_eqls, bin_eqls0, un_not, un_neg, len_s, cap_s, ex_t, cv_i, callV_f, Option.bind_some, Option.map_some, Nat.zero_add, Nat.add_zero, Nat.reduceAdd, Nat.reduceMul, size_newB, size_setB, blk_newB_self, own_newB_self, setB_setB, List.getElem?_toArray, List.getElem?_cons_zero, List.getElem?_cons_succ, List.length_cons, List.length_nil, List.all_cons, List.all_nil, isCell_int, isCell_bool, isCell_ptr, isCell_slice, isCell_func, Bool.and_true, Bool.and_self, and_self, if_true, List.size_toArray, and_true, true_and, Nat.reduceLeDiff, Nat.le_refl, Bool.not_true, Bool.not_false, Bool.true_and, Bool.false_and, Bool.and_false, Int.reduceBNe, Int.reduceBEq, Int.reduceLT, Int.reduceLE, decide_true, decide_false, bin_add, w5]
  exact ⟨⟨i + 1, _, rfl, by omega, by omega, by omega, h2⟩, by show _ < _; omega⟩
end Go.Hc

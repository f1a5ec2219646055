/- Sets: what reads. -/
import Derived.Test.YtecomjpmajbpgaaS04F
set_option linter.unusedSimpArgs false
set_option linter.unusedVariables false
namespace Go.Hc
open Go

section
variable {H : Heap} {s room : Nat} {rs : List Rng} {T : List Nat} {n : Int} {R : Value → Heap → Prop}
theorem Has_ev (h : SetH H s room rs T) (hR : ∀ H', Ext [] H H' → R (.bool (hasR rs n)) H') : EvF P N.span_Set_Has #[ptr s, iv n] H R := by
  refine span_Set_Has_ev _ _ _ _ ?_
  simp only [span_Set_Has_g7, span_Set_Has_g8, span_Set_Has_g9, span_Set_Has]
  try simp only [bnd_some, brV_t, brV_f, brG_t, brG_f, newE_u, pickE_t, pickE_f, nilV_p, faV_p, ldE_f, ldE_t, rdA_u, stE_p, cells_int, cells_bool, cells_ptr, cells_slice, cells_func, cells_agg, bin_add, bin_sub, bin_mul, bin_eql, bin_neq, bin_lss, bin_leq, bin_gtr, bin_geq, bin_eqlb, bin_neqb, bin_eqlp, bin_eqlp0, bin_neqp, bin_neqp0, bin_eqls, bin_eqls0, un_not, un_neg, len_s, cap_s, ex_t, cv_i, callV_f, Option.bind_some, Option.map_some, Nat.zero_add, Nat.add_zero, Nat.reduceAdd, Nat.reduceMul, size_newB, size_setB, blk_newB_self, own_newB_self, wrA_b, own_setB_m, blk_setB_m, setB_setB, List.getElem?_toArray, List.getElem?_cons_zero, List.getElem?_cons_succ, List.length_cons, List.length_nil, List.all_cons, List.all_nil, isCell_int, isCell_bool, isCell_ptr, isCell_slice, isCell_func, Bool.and_true, Bool.and_self, and_self, if_true, List.size_toArray, and_true, true_and, Nat.reduceLeDiff, Nat.le_refl, Bool.not_true, Bool.not_false, Bool.true_and, Bool.false_and, Bool.and_false, Int.reduceBNe, Int.reduceBEq, Int.reduceLT, Int.reduceLE, decide_true, decide_false]
  refine at_ev' h fun H1 e1 => ?_
  have en : ∀ t c c', Ext [] H1 (setB (newB H1 t c) H1.size c') := fun t c c' => ((Ext.refl _ _).newB t c).setB _ _ (Or.inr (Nat.le_refl _))
  try simp only [bnd_some, brV_t, brV_f, brG_t, brG_f, newE_u, pickE_t, pickE_f, nilV_p, faV_p, ldE_f, ldE_t, rdA_u, stE_p, cells_int, cells_bool, cells_ptr, cells_slice, cells_func, cells_agg, bin_add, bin_sub, bin_mul, bin_eql, bin_neq, bin_lss, bin_leq, bin_gtr, bin_geq, bin_eqlb, bin_neqb, bin_eqlp, bin_eqlp0, bin_neqp, bin_neqp0, bin_eqls, bin_eqls0, un_not, un_neg, len_s, cap_s, ex_t, cv_i, callV_f, Option.bind_some, Option.map_some, Nat.zero_add, Nat.add_zero, Nat.reduceAdd, Nat.reduceMul, size_newB, size_setB, blk_newB_self, own_newB_self, wrA_b, own_setB_m, blk_setB_m, setB_setB, List.getElem?_toArray, List.getElem?_cons_zero, List.getElem?_cons_succ, List.length_cons, List.length_nil, List.all_cons, List.all_nil, isCell_int, isCell_bool, isCell_ptr, isCell_slice, isCell_func, Bool.and_true, Bool.and_self, and_self, if_true, List.size_toArray, and_true, true_and, Nat.reduceLeDiff, Nat.le_refl, Bool.not_true, Bool.not_false, Bool.true_and, Bool.false_and, Bool.and_false, Int.reduceBNe, Int.reduceBEq, Int.reduceLT, Int.reduceLE, decide_true, decide_false, optR, rngC_s, rngC_l, rngC_a, rng0, rngC_w]
  rw [← hasR_at]
  exact hR _ (e1.trans (en _ _ _))
theorem Next_s27 {n : Int} {H : Heap} {R : Value → Heap → Prop} (hR : R (iv (if okN n then n else -1)) H) : span_Set_Next_s27 (iv n) R H := by
  simp only [span_Set_Next_g24, span_Set_Next_g25, span_Set_Next_g26, span_Set_Next_g28, span_Set_Next_g29, span_Set_Next_g30, span_Set_Next_s27, span_Set_Next_g32, span_Set_Next_g33, span_Set_Next_g34, span_Set_Next]
  try simp only [bnd_some, brV_t, brV_f, brG_t, brG_f, newE_u, pickE_t, pickE_f, nilV_p, faV_p, ldE_f, ldE_t, rdA_u, stE_p, cells_int, cells_bool, cells_ptr, cells_slice, cells_func, cells_agg, bin_add, bin_sub, bin_mul, bin_eql, bin_neq, bin_lss, bin_leq, bin_gtr, bin_geq, bin_eqlb, bin_neqb, bin_eqlp, bin_eqlp0, bin_neqp, bin_neqp0, bin_eqls, bin_eqls0, un_not, un_neg, len_s, cap_s, ex_t, cv_i, callV_f, Option.bind_some, Option.map_some, Nat.zero_add, Nat.add_zero, Nat.reduceAdd, Nat.reduceMul, size_newB, size_setB, blk_newB_self, own_newB_self, wrA_b, own_setB_m, blk_setB_m, setB_setB, List.getElem?_toArray, List.getElem?_cons_zero, List.getElem?_cons_succ, List.length_cons, List.length_nil, List.all_cons, List.all_nil, isCell_int, isCell_bool, isCell_ptr, isCell_slice, isCell_func, Bool.and_true, Bool.and_self, and_self, if_true, List.size_toArray, and_true, true_and, Nat.reduceLeDiff, Nat.le_refl, Bool.not_true, Bool.not_false, Bool.true_and, Bool.false_and, Bool.and_false, Int.reduceBNe, Int.reduceBEq, Int.reduceLT, Int.reduceLE, decide_true, decide_false]
  refine spanis_ev ?_
  try simp only [bnd_some, brV_t, brV_f, brG_t, brG_f, newE_u, pickE_t, pickE_f, nilV_p, faV_p, ldE_f, ldE_t, rdA_u, stE_p, cells_int, cells_bool, cells_ptr, cells_slice, cells_func, cells_agg, bin_add, bin_sub, bin_mul, bin_eql, bin_neq, bin_lss, bin_leq, bin_gtr, bin_geq, bin_eqlb, bin_neqb, bin_eqlp, bin_eqlp0, bin_neqp, bin_neqp0, bin_eqls, bin_eqls0, un_not, un_neg, len_s, cap_s, ex_t, cv_i, callV_f, Option.bind_some, Option.map_some, Nat.zero_add, Nat.add_zero, Nat.reduceAdd, Nat.reduceMul, size_newB, size_setB, blk_newB_self, own_newB_self, wrA_b, own_setB_m, blk_setB_m, setB_setB, List.getElem?_toArray, List.getElem?_cons_zero, List.getElem?_cons_succ, List.length_cons, List.length_nil, List.all_cons, List.all_nil, isCell_int, isCell_bool, isCell_ptr, isCell_slice, isCell_func, Bool.and_true, Bool.and_self, and_self, if_true, List.size_toArray, and_true, true_and, Nat.reduceLeDiff, Nat.le_refl, Bool.not_true, Bool.not_false, Bool.true_and, Bool.false_and, Bool.and_false, Int.reduceBNe, Int.reduceBEq, Int.reduceLT, Int.reduceLE, decide_true, decide_false]
  refine brV_i (fun hb => ?_) (fun hb => ?_)
  · have hb' : ¬ okN n := by simp [okN] at hb ⊢; omega
    rw [if_neg hb'] at hR; exact hR
  · have hb' : okN n := by simp [okN] at hb ⊢; omega
    rw [if_pos hb'] at hR; exact hR
theorem Next_ev (h : SetH H s room rs T) (hR : ∀ H', Ext [] H H' → R (iv (nextR rs n)) H') : EvF P N.span_Set_Next #[ptr s, iv n] H R := by
  refine span_Set_Next_ev _ _ _ _ ?_
  obtain ⟨v, T', ho, hl, rfl, hn⟩ := h.rep
  simp only [span_Set_Next_g24, span_Set_Next_g25, span_Set_Next_g26, span_Set_Next_g28, span_Set_Next_g29, span_Set_Next_g30, span_Set_Next_g32, span_Set_Next_g33, span_Set_Next_g34, span_Set_Next]
  try simp only [bnd_some, brV_t, brV_f, brG_t, brG_f, newE_u, pickE_t, pickE_f, nilV_p, faV_p, ldE_f, ldE_t, rdA_u, stE_p, cells_int, cells_bool, cells_ptr, cells_slice, cells_func, cells_agg, bin_add, bin_sub, bin_mul, bin_eql, bin_neq, bin_lss, bin_leq, bin_gtr, bin_geq, bin_eqlb, bin_neqb, bin_eqlp, bin_eqlp0, bin_neqp, bin_neqp0, bin_eqls, bin_eqls0, un_not, un_neg, len_s, cap_s, ex_t, cv_i, callV_f, Option.bind_some, Option.map_some, Nat.zero_add, Nat.add_zero, Nat.reduceAdd, Nat.reduceMul, size_newB, size_setB, blk_newB_self, own_newB_self, wrA_b, own_setB_m, blk_setB_m, setB_setB, List.getElem?_toArray, List.getElem?_cons_zero, List.getElem?_cons_succ, List.length_cons, List.length_nil, List.all_cons, List.all_nil, isCell_int, isCell_bool, isCell_ptr, isCell_slice, isCell_func, Bool.and_true, Bool.and_self, and_self, if_true, List.size_toArray, and_true, true_and, Nat.reduceLeDiff, Nat.le_refl, Bool.not_true, Bool.not_false, Bool.true_and, Bool.false_and, Bool.and_false, Int.reduceBNe, Int.reduceBEq, Int.reduceLT, Int.reduceLE, decide_true, decide_false]
  refine setnone_ev ho h.hroom.1 ?_
  try simp only [bnd_some, brV_t, brV_f, brG_t, brG_f, newE_u, pickE_t, pickE_f, nilV_p, faV_p, ldE_f, ldE_t, rdA_u, stE_p, cells_int, cells_bool, cells_ptr, cells_slice, cells_func, cells_agg, bin_add, bin_sub, bin_mul, bin_eql, bin_neq, bin_lss, bin_leq, bin_gtr, bin_geq, bin_eqlb, bin_neqb, bin_eqlp, bin_eqlp0, bin_neqp, bin_neqp0, bin_eqls, bin_eqls0, un_not, un_neg, len_s, cap_s, ex_t, cv_i, callV_f, Option.bind_some, Option.map_some, Nat.zero_add, Nat.add_zero, Nat.reduceAdd, Nat.reduceMul, size_newB, size_setB, blk_newB_self, own_newB_self, wrA_b, own_setB_m, blk_setB_m, setB_setB, List.getElem?_toArray, List.getElem?_cons_zero, List.getElem?_cons_succ, List.length_cons, List.length_nil, List.all_cons, List.all_nil, isCell_int, isCell_bool, isCell_ptr, isCell_slice, isCell_func, Bool.and_true, Bool.and_self, and_self, if_true, List.size_toArray, and_true, true_and, Nat.reduceLeDiff, Nat.le_refl, Bool.not_true, Bool.not_false, Bool.true_and, Bool.false_and, Bool.and_false, Int.reduceBNe, Int.reduceBEq, Int.reduceLT, Int.reduceLE, decide_true, decide_false]
  refine spanis_ev ?_
  try simp only [bnd_some, brV_t, brV_f, brG_t, brG_f, newE_u, pickE_t, pickE_f, nilV_p, faV_p, ldE_f, ldE_t, rdA_u, stE_p, cells_int, cells_bool, cells_ptr, cells_slice, cells_func, cells_agg, bin_add, bin_sub, bin_mul, bin_eql, bin_neq, bin_lss, bin_leq, bin_gtr, bin_geq, bin_eqlb, bin_neqb, bin_eqlp, bin_eqlp0, bin_neqp, bin_neqp0, bin_eqls, bin_eqls0, un_not, un_neg, len_s, cap_s, ex_t, cv_i, callV_f, Option.bind_some, Option.map_some, Nat.zero_add, Nat.add_zero, Nat.reduceAdd, Nat.reduceMul, size_newB, size_setB, blk_newB_self, own_newB_self, wrA_b, own_setB_m, blk_setB_m, setB_setB, List.getElem?_toArray, List.getElem?_cons_zero, List.getElem?_cons_succ, List.length_cons, List.length_nil, List.all_cons, List.all_nil, isCell_int, isCell_bool, isCell_ptr, isCell_slice, isCell_func, Bool.and_true, Bool.and_self, and_self, if_true, List.size_toArray, and_true, true_and, Nat.reduceLeDiff, Nat.le_refl, Bool.not_true, Bool.not_false, Bool.true_and, Bool.false_and, Bool.and_false, Int.reduceBNe, Int.reduceBEq, Int.reduceLT, Int.reduceLE, decide_true, decide_false]
  refine brV_i (fun hb => ?_) (fun hb => ?_)
  · have hb' : ¬ okN n := by simp [okN] at hb ⊢; omega
    have := hR H (Ext.refl _ _)
    unfold nextR at this; rw [if_neg hb'] at this; exact this
  · have hb' : okN n := by simp [okN] at hb ⊢; omega
    refine at_ev' h fun H1 e1 => ?_
    have en : ∀ t c c', Ext [] H1 (setB (newB H1 t c) H1.size c') := fun t c c' => ((Ext.refl _ _).newB t c).setB _ _ (Or.inr (Nat.le_refl _))
    try simp only [bnd_some, brV_t, brV_f, brG_t, brG_f, newE_u, pickE_t, pickE_f, nilV_p, faV_p, ldE_f, ldE_t, rdA_u, stE_p, cells_int, cells_bool, cells_ptr, cells_slice, cells_func, cells_agg, bin_add, bin_sub, bin_mul, bin_eql, bin_neq, bin_lss, bin_leq, bin_gtr, bin_geq, bin_eqlb, bin_neqb, bin_eqlp, bin_eqlp0, bin_neqp, bin_neqp0, bin_eqls, bin_eqls0, un_not, un_neg, len_s, cap_s, ex_t, cv_i, callV_f, Option.bind_some, Option.map_some, Nat.zero_add, Nat.add_zero, Nat.reduceAdd, Nat.reduceMul, size_newB, size_setB, blk_newB_self, own_newB_self, wrA_b, own_setB_m, blk_setB_m, setB_setB, List.getElem?_toArray, List.getElem?_cons_zero, List.getElem?_cons_succ, List.length_cons, List.length_nil, List.all_cons, List.all_nil, isCell_int, isCell_bool, isCell_ptr, isCell_slice, isCell_func, Bool.and_true, Bool.and_self, and_self, if_true, List.size_toArray, and_true, true_and, Nat.reduceLeDiff, Nat.le_refl, Bool.not_true, Bool.not_false, Bool.true_and, Bool.false_and, Bool.and_false, Int.reduceBNe, Int.reduceBEq, Int.reduceLT, Int.reduceLE, decide_true, decide_false, optR, rngC_s, rngC_l, rngC_a, rng0, rngC_w]
    have hR' := fun t c c' => hR _ (e1.trans (en t c c'))
    unfold nextR at hR'
    rw [if_pos hb'] at hR'
    cases hat : atR rs n with
    | none =>
      try simp only [bnd_some, brV_t, brV_f, brG_t, brG_f, newE_u, pickE_t, pickE_f, nilV_p, faV_p, ldE_f, ldE_t, rdA_u, stE_p, cells_int, cells_bool, cells_ptr, cells_slice, cells_func, cells_agg, bin_add, bin_sub, bin_mul, bin_eql, bin_neq, bin_lss, bin_leq, bin_gtr, bin_geq, bin_eqlb, bin_neqb, bin_eqlp, bin_eqlp0, bin_neqp, bin_neqp0, bin_eqls, bin_eqls0, un_not, un_neg, len_s, cap_s, ex_t, cv_i, callV_f, Option.bind_some, Option.map_some, Nat.zero_add, Nat.add_zero, Nat.reduceAdd, Nat.reduceMul, size_newB, size_setB, blk_newB_self, own_newB_self, wrA_b, own_setB_m, blk_setB_m, setB_setB, List.getElem?_toArray, List.getElem?_cons_zero, List.getElem?_cons_succ, List.length_cons, List.length_nil, List.all_cons, List.all_nil, isCell_int, isCell_bool, isCell_ptr, isCell_slice, isCell_func, Bool.and_true, Bool.and_self, and_self, if_true, List.size_toArray, and_true, true_and, Nat.reduceLeDiff, Nat.le_refl, Bool.not_true, Bool.not_false, Bool.true_and, Bool.false_and, Bool.and_false, Int.reduceBNe, Int.reduceBEq, Int.reduceLT, Int.reduceLE, decide_true, decide_false, Option.isSome_none]
      rw [hat] at hR'
      exact Next_s27 (hR' _ _ _)
    | some x =>
      have hx := h.ok.each x (List.mem_of_find?_eq_some hat)
      have w1 : IntKind.i64.wrap (x.2 + 1) = x.2 + 1 := wrap_in (by omega)
      try simp only [bnd_some, brV_t, brV_f, brG_t, brG_f, newE_u, pickE_t, pickE_f, nilV_p, faV_p, ldE_f, ldE_t, rdA_u, stE_p, cells_int, cells_bool, cells_ptr, cells_slice, cells_func, cells_agg, bin_add, bin_sub, bin_mul, bin_eql, bin_neq, bin_lss, bin_leq, bin_gtr, bin_geq, bin_eqlb, bin_neqb, bin_eqlp, bin_eqlp0, bin_neqp, bin_neqp0, bin_eqls, bin_eqls0, un_not, un_neg, len_s, cap_s, ex_t, cv_i, callV_f, Option.bind_some, Option.map_some, Nat.zero_add, Nat.add_zero, Nat.reduceAdd, Nat.reduceMul, size_newB, size_setB, blk_newB_self, own_newB_self, wrA_b, own_setB_m, blk_setB_m, setB_setB, List.getElem?_toArray, List.getElem?_cons_zero, List.getElem?_cons_succ, List.length_cons, List.length_nil, List.all_cons, List.all_nil, isCell_int, isCell_bool, isCell_ptr, isCell_slice, isCell_func, Bool.and_true, Bool.and_self, and_self, if_true, List.size_toArray, and_true, true_and, Nat.reduceLeDiff, Nat.le_refl, Bool.not_true, Bool.not_false, Bool.true_and, Bool.false_and, Bool.and_false, Int.reduceBNe, Int.reduceBEq, Int.reduceLT, Int.reduceLE, decide_true, decide_false, Option.isSome_some, Option.getD_some, rngC_1, w1]
      rw [hat] at hR'
      exact Next_s27 (hR' _ _ _)
theorem SLen_ev (h : SetH H s room rs T) (hR : R (iv rs.length) H) : EvF P N.span_Set_Len #[ptr s] H R := by
  refine span_Set_Len_ev _ _ _ ?_
  obtain ⟨v, T', ho, hl, rfl, hn⟩ := h.rep
  simp only [span_Set_Len_g11, span_Set_Len_g12, span_Set_Len_g13, span_Set_Len_g14, span_Set_Len]
  try simp only [bnd_some, brV_t, brV_f, brG_t, brG_f, newE_u, pickE_t, pickE_f, nilV_p, faV_p, ldE_f, ldE_t, rdA_u, stE_p, cells_int, cells_bool, cells_ptr, cells_slice, cells_func, cells_agg, bin_add, bin_sub, bin_mul, bin_eql, bin_neq, bin_lss, bin_leq, bin_gtr, bin_geq, bin_eqlb, bin_neqb, bin_eqlp, bin_eqlp0, bin_neqp, bin_neqp0, bin_eqls, bin_eqls0, un_not, un_neg, len_s, cap_s, ex_t, cv_i, callV_f, Option.bind_some, Option.map_some, Nat.zero_add, Nat.add_zero, Nat.reduceAdd, Nat.reduceMul, size_newB, size_setB, blk_newB_self, own_newB_self, wrA_b, own_setB_m, blk_setB_m, setB_setB, List.getElem?_toArray, List.getElem?_cons_zero, List.getElem?_cons_succ, List.length_cons, List.length_nil, List.all_cons, List.all_nil, isCell_int, isCell_bool, isCell_ptr, isCell_slice, isCell_func, Bool.and_true, Bool.and_self, and_self, if_true, List.size_toArray, and_true, true_and, Nat.reduceLeDiff, Nat.le_refl, Bool.not_true, Bool.not_false, Bool.true_and, Bool.false_and, Bool.and_false, Int.reduceBNe, Int.reduceBEq, Int.reduceLT, Int.reduceLE, decide_true, decide_false]
  refine setnone_ev ho h.hroom.1 ?_
  try simp only [bnd_some, brV_t, brV_f, brG_t, brG_f, newE_u, pickE_t, pickE_f, nilV_p, faV_p, ldE_f, ldE_t, rdA_u, stE_p, cells_int, cells_bool, cells_ptr, cells_slice, cells_func, cells_agg, bin_add, bin_sub, bin_mul, bin_eql, bin_neq, bin_lss, bin_leq, bin_gtr, bin_geq, bin_eqlb, bin_neqb, bin_eqlp, bin_eqlp0, bin_neqp, bin_neqp0, bin_eqls, bin_eqls0, un_not, un_neg, len_s, cap_s, ex_t, cv_i, callV_f, Option.bind_some, Option.map_some, Nat.zero_add, Nat.add_zero, Nat.reduceAdd, Nat.reduceMul, size_newB, size_setB, blk_newB_self, own_newB_self, wrA_b, own_setB_m, blk_setB_m, setB_setB, List.getElem?_toArray, List.getElem?_cons_zero, List.getElem?_cons_succ, List.length_cons, List.length_nil, List.all_cons, List.all_nil, isCell_int, isCell_bool, isCell_ptr, isCell_slice, isCell_func, Bool.and_true, Bool.and_self, and_self, if_true, List.size_toArray, and_true, true_and, Nat.reduceLeDiff, Nat.le_refl, Bool.not_true, Bool.not_false, Bool.true_and, Bool.false_and, Bool.and_false, Int.reduceBNe, Int.reduceBEq, Int.reduceLT, Int.reduceLE, decide_true, decide_false, own_blk ho, setC_1, hl.len]
  exact hR
theorem Max_ev (h : SetH H s room rs T) (hR : R (iv (maxR rs)) H) : EvF P N.span_Set_Max #[ptr s] H R := by
  refine span_Set_Max_ev _ _ _ ?_
  obtain ⟨v, T', ho, hl, rfl, hn⟩ := h.rep
  have hrm := h.hroom
  have hfw := h.few
  simp only [span_Set_Max_g11, span_Set_Max_g12, span_Set_Max_g13, span_Set_Max_g14, span_Set_Max]
  try simp only [bnd_some, brV_t, brV_f, brG_t, brG_f, newE_u, pickE_t, pickE_f, nilV_p, faV_p, ldE_f, ldE_t, rdA_u, stE_p, cells_int, cells_bool, cells_ptr, cells_slice, cells_func, cells_agg, bin_add, bin_sub, bin_mul, bin_eql, bin_neq, bin_lss, bin_leq, bin_gtr, bin_geq, bin_eqlb, bin_neqb, bin_eqlp, bin_eqlp0, bin_neqp, bin_neqp0, bin_eqls, bin_eqls0, un_not, un_neg, len_s, cap_s, ex_t, cv_i, callV_f, Option.bind_some, Option.map_some, Nat.zero_add, Nat.add_zero, Nat.reduceAdd, Nat.reduceMul, size_newB, size_setB, blk_newB_self, own_newB_self, wrA_b, own_setB_m, blk_setB_m, setB_setB, List.getElem?_toArray, List.getElem?_cons_zero, List.getElem?_cons_succ, List.length_cons, List.length_nil, List.all_cons, List.all_nil, isCell_int, isCell_bool, isCell_ptr, isCell_slice, isCell_func, Bool.and_true, Bool.and_self, and_self, if_true, List.size_toArray, and_true, true_and, Nat.reduceLeDiff, Nat.le_refl, Bool.not_true, Bool.not_false, Bool.true_and, Bool.false_and, Bool.and_false, Int.reduceBNe, Int.reduceBEq, Int.reduceLT, Int.reduceLE, decide_true, decide_false]
  refine setnone_ev ho h.hroom.1 ?_
  try simp only [bnd_some, brV_t, brV_f, brG_t, brG_f, newE_u, pickE_t, pickE_f, nilV_p, faV_p, ldE_f, ldE_t, rdA_u, stE_p, cells_int, cells_bool, cells_ptr, cells_slice, cells_func, cells_agg, bin_add, bin_sub, bin_mul, bin_eql, bin_neq, bin_lss, bin_leq, bin_gtr, bin_geq, bin_eqlb, bin_neqb, bin_eqlp, bin_eqlp0, bin_neqp, bin_neqp0, bin_eqls, bin_eqls0, un_not, un_neg, len_s, cap_s, ex_t, cv_i, callV_f, Option.bind_some, Option.map_some, Nat.zero_add, Nat.add_zero, Nat.reduceAdd, Nat.reduceMul, size_newB, size_setB, blk_newB_self, own_newB_self, wrA_b, own_setB_m, blk_setB_m, setB_setB, List.getElem?_toArray, List.getElem?_cons_zero, List.getElem?_cons_succ, List.length_cons, List.length_nil, List.all_cons, List.all_nil, isCell_int, isCell_bool, isCell_ptr, isCell_slice, isCell_func, Bool.and_true, Bool.and_self, and_self, if_true, List.size_toArray, and_true, true_and, Nat.reduceLeDiff, Nat.le_refl, Bool.not_true, Bool.not_false, Bool.true_and, Bool.false_and, Bool.and_false, Int.reduceBNe, Int.reduceBEq, Int.reduceLT, Int.reduceLE, decide_true, decide_false, own_blk ho, setC_1, hl.len]
  refine brV_i (fun h0 => ?_) (fun h0 => ?_)
  · have : rs = [] := List.length_eq_zero_iff.1 (by have h3 : (rs.length : Int) = 0 := by simpa using h0
                                                    omega)
    subst this; exact hR
  · have hpos : 0 < rs.length := by
      have h3 : (rs.length : Int) ≠ 0 := by simpa using h0
      omega
    have w1 : IntKind.i64.wrap ((rs.length : Int) - 1) = ((rs.length - 1 : Nat) : Int) := by rw [wrap_in (by omega)]; omega
    obtain ⟨b, o, c, i1, i2, i3, i4⟩ := hl.show.ix (by decide) (show rs.length - 1 < rs.length by omega) (rfl : ((rs.length - 1 : Nat) : Int) = (rs.length - 1 : Nat))
    have i1' : ixSV 2 v (iv ((rs.length - 1 : Nat) : Int)) = _ := i1
    have i5 : c[o + 1]? = some (iv (rs[rs.length - 1]).2) := i3 1 (by decide)
    try simp only [bnd_some, brV_t, brV_f, brG_t, brG_f, newE_u, pickE_t, pickE_f, nilV_p, faV_p, ldE_f, ldE_t, rdA_u, stE_p, cells_int, cells_bool, cells_ptr, cells_slice, cells_func, cells_agg, bin_add, bin_sub, bin_mul, bin_eql, bin_neq, bin_lss, bin_leq, bin_gtr, bin_geq, bin_eqlb, bin_neqb, bin_eqlp, bin_eqlp0, bin_neqp, bin_neqp0, bin_eqls, bin_eqls0, un_not, un_neg, len_s, cap_s, ex_t, cv_i, callV_f, Option.bind_some, Option.map_some, Nat.zero_add, Nat.add_zero, Nat.reduceAdd, Nat.reduceMul, size_newB, size_setB, blk_newB_self, own_newB_self, wrA_b, own_setB_m, blk_setB_m, setB_setB, List.getElem?_toArray, List.getElem?_cons_zero, List.getElem?_cons_succ, List.length_cons, List.length_nil, List.all_cons, List.all_nil, isCell_int, isCell_bool, isCell_ptr, isCell_slice, isCell_func, Bool.and_true, Bool.and_self, and_self, if_true, List.size_toArray, and_true, true_and, Nat.reduceLeDiff, Nat.le_refl, Bool.not_true, Bool.not_false, Bool.true_and, Bool.false_and, Bool.and_false, Int.reduceBNe, Int.reduceBEq, Int.reduceLT, Int.reduceLE, decide_true, decide_false, own_blk ho, setC_1, hl.len, w1, i1', i2, i5]
    have : maxR rs = (rs[rs.length - 1]).2 := by unfold maxR; rw [List.getLast?_eq_getElem?, List.getElem?_eq_getElem (by omega)]
    rw [← this]; exact hR
theorem Min_ev (h : SetH H s room rs T) (hR : R (iv (minR rs)) H) : EvF P N.span_Set_Min #[ptr s] H R := by
  refine span_Set_Min_ev _ _ _ ?_
  obtain ⟨v, T', ho, hl, rfl, hn⟩ := h.rep
  simp only [span_Set_Min_g11, span_Set_Min_g12, span_Set_Min_g13, span_Set_Min_g14, span_Set_Min]
  try simp only [bnd_some, brV_t, brV_f, brG_t, brG_f, newE_u, pickE_t, pickE_f, nilV_p, faV_p, ldE_f, ldE_t, rdA_u, stE_p, cells_int, cells_bool, cells_ptr, cells_slice, cells_func, cells_agg, bin_add, bin_sub, bin_mul, bin_eql, bin_neq, bin_lss, bin_leq, bin_gtr, bin_geq, bin_eqlb, bin_neqb, bin_eqlp, bin_eqlp0, bin_neqp, bin_neqp0, bin_eqls, bin_eqls0, un_not, un_neg, len_s, cap_s, ex_t, cv_i, callV_f, Option.bind_some, Option.map_some, Nat.zero_add, Nat.add_zero, Nat.reduceAdd, Nat.reduceMul, size_newB, size_setB, blk_newB_self, own_newB_self, wrA_b, own_setB_m, blk_setB_m, setB_setB, List.getElem?_toArray, List.getElem?_cons_zero, List.getElem?_cons_succ, List.length_cons, List.length_nil, List.all_cons, List.all_nil, isCell_int, isCell_bool, isCell_ptr, isCell_slice, isCell_func, Bool.and_true, Bool.and_self, and_self, if_true, List.size_toArray, and_true, true_and, Nat.reduceLeDiff, Nat.le_refl, Bool.not_true, Bool.not_false, Bool.true_and, Bool.false_and, Bool.and_false, Int.reduceBNe, Int.reduceBEq, Int.reduceLT, Int.reduceLE, decide_true, decide_false]
  refine setnone_ev ho h.hroom.1 ?_
  try simp only [bnd_some, brV_t, brV_f, brG_t, brG_f, newE_u, pickE_t, pickE_f, nilV_p, faV_p, ldE_f, ldE_t, rdA_u, stE_p, cells_int, cells_bool, cells_ptr, cells_slice, cells_func, cells_agg, bin_add, bin_sub, bin_mul, bin_eql, bin_neq, bin_lss, bin_leq, bin_gtr, bin_geq, bin_eqlb, bin_neqb, bin_eqlp, bin_eqlp0, bin_neqp, bin_neqp0, bin_eqls, bin_eqls0, un_not, un_neg, len_s, cap_s, ex_t, cv_i, callV_f, Option.bind_some, Option.map_some, Nat.zero_add, Nat.add_zero, Nat.reduceAdd, Nat.reduceMul, size_newB, size_setB, blk_newB_self, own_newB_self, wrA_b, own_setB_m, blk_setB_m, setB_setB, List.getElem?_toArray, List.getElem?_cons_zero, List.getElem?_cons_succ, List.length_cons, List.length_nil, List.all_cons, List.all_nil, isCell_int, isCell_bool, isCell_ptr, isCell_slice, isCell_func, Bool.and_true, Bool.and_self, and_self, if_true, List.size_toArray, and_true, true_and, Nat.reduceLeDiff, Nat.le_refl, Bool.not_true, Bool.not_false, Bool.true_and, Bool.false_and, Bool.and_false, Int.reduceBNe, Int.reduceBEq, Int.reduceLT, Int.reduceLE, decide_true, decide_false, own_blk ho, setC_1, hl.len]
  refine brV_i (fun h0 => ?_) (fun h0 => ?_)
  · have : rs = [] := List.length_eq_zero_iff.1 (by have h3 : (rs.length : Int) = 0 := by simpa using h0
                                                    omega)
    subst this; exact hR
  · have hpos : 0 < rs.length := by
      have h3 : (rs.length : Int) ≠ 0 := by simpa using h0
      omega
    obtain ⟨b, o, c, i1, i2, i3, i4⟩ := hl.show.ix (by decide) hpos (rfl : ((0 : Nat) : Int) = (0 : Nat))
    have i1' : ixSV 2 v (.int .i64 0) = _ := i1
    have i5 : c[o]? = some (iv (rs[0]).1) := i3 0 (by decide)
    try simp only [bnd_some, brV_t, brV_f, brG_t, brG_f, newE_u, pickE_t, pickE_f, nilV_p, faV_p, ldE_f, ldE_t, rdA_u, stE_p, cells_int, cells_bool, cells_ptr, cells_slice, cells_func, cells_agg, bin_add, bin_sub, bin_mul, bin_eql, bin_neq, bin_lss, bin_leq, bin_gtr, bin_geq, bin_eqlb, bin_neqb, bin_eqlp, bin_eqlp0, bin_neqp, bin_neqp0, bin_eqls, bin_eqls0, un_not, un_neg, len_s, cap_s, ex_t, cv_i, callV_f, Option.bind_some, Option.map_some, Nat.zero_add, Nat.add_zero, Nat.reduceAdd, Nat.reduceMul, size_newB, size_setB, blk_newB_self, own_newB_self, wrA_b, own_setB_m, blk_setB_m, setB_setB, List.getElem?_toArray, List.getElem?_cons_zero, List.getElem?_cons_succ, List.length_cons, List.length_nil, List.all_cons, List.all_nil, isCell_int, isCell_bool, isCell_ptr, isCell_slice, isCell_func, Bool.and_true, Bool.and_self, and_self, if_true, List.size_toArray, and_true, true_and, Nat.reduceLeDiff, Nat.le_refl, Bool.not_true, Bool.not_false, Bool.true_and, Bool.false_and, Bool.and_false, Int.reduceBNe, Int.reduceBEq, Int.reduceLT, Int.reduceLE, decide_true, decide_false, own_blk ho, setC_1, i1', i2, i5]
    have : minR rs = (rs[0]).1 := by
      cases rs with
      | nil => simp at hpos
      | cons r l => rfl
    rw [← this]; exact hR
theorem Same_ev {s2 room2 : Nat} {rs2 : List Rng} {T2 : List Nat} (h : SetH H s room rs T) (h2 : SetH H s2 room2 rs2 T2) (hR : R (.bool (decide (room = room2 ∧ rs = rs2))) H) : EvF P N.span_Set_Same #[ptr s, ptr s2] H R := by
  refine span_Set_Same_ev _ _ _ _ ?_
  obtain ⟨v, T', ho, hl, rfl, hn⟩ := h.rep
  obtain ⟨v2, T2', ho2, hl2, rfl, hn2⟩ := h2.rep
  simp only [span_Set_Same_g5, span_Set_Same_g6, span_Set_Same]
  try simp only [bnd_some, brV_t, brV_f, brG_t, brG_f, newE_u, pickE_t, pickE_f, nilV_p, faV_p, ldE_f, ldE_t, rdA_u, stE_p, cells_int, cells_bool, cells_ptr, cells_slice, cells_func, cells_agg, bin_add, bin_sub, bin_mul, bin_eql, bin_neq, bin_lss, bin_leq, bin_gtr, bin_geq, bin_eqlb, bin_neqb, bin_eqlp, bin_eqlp0, bin_neqp, bin_neqp0, bin_eqls, bin_eqls0, un_not, un_neg, len_s, cap_s, ex_t, cv_i, callV_f, Option.bind_some, Option.map_some, Nat.zero_add, Nat.add_zero, Nat.reduceAdd, Nat.reduceMul, size_newB, size_setB, blk_newB_self, own_newB_self, wrA_b, own_setB_m, blk_setB_m, setB_setB, List.getElem?_toArray, List.getElem?_cons_zero, List.getElem?_cons_succ, List.length_cons, List.length_nil, List.all_cons, List.all_nil, isCell_int, isCell_bool, isCell_ptr, isCell_slice, isCell_func, Bool.and_true, Bool.and_self, and_self, if_true, List.size_toArray, and_true, true_and, Nat.reduceLeDiff, Nat.le_refl, Bool.not_true, Bool.not_false, Bool.true_and, Bool.false_and, Bool.and_false, Int.reduceBNe, Int.reduceBEq, Int.reduceLT, Int.reduceLE, decide_true, decide_false]
  refine setnone_ev ho h.hroom.1 ?_
  try simp only [bnd_some, brV_t, brV_f, brG_t, brG_f, newE_u, pickE_t, pickE_f, nilV_p, faV_p, ldE_f, ldE_t, rdA_u, stE_p, cells_int, cells_bool, cells_ptr, cells_slice, cells_func, cells_agg, bin_add, bin_sub, bin_mul, bin_eql, bin_neq, bin_lss, bin_leq, bin_gtr, bin_geq, bin_eqlb, bin_neqb, bin_eqlp, bin_eqlp0, bin_neqp, bin_neqp0, bin_eqls, bin_eqls0, un_not, un_neg, len_s, cap_s, ex_t, cv_i, callV_f, Option.bind_some, Option.map_some, Nat.zero_add, Nat.add_zero, Nat.reduceAdd, Nat.reduceMul, size_newB, size_setB, blk_newB_self, own_newB_self, wrA_b, own_setB_m, blk_setB_m, setB_setB, List.getElem?_toArray, List.getElem?_cons_zero, List.getElem?_cons_succ, List.length_cons, List.length_nil, List.all_cons, List.all_nil, isCell_int, isCell_bool, isCell_ptr, isCell_slice, isCell_func, Bool.and_true, Bool.and_self, and_self, if_true, List.size_toArray, and_true, true_and, Nat.reduceLeDiff, Nat.le_refl, Bool.not_true, Bool.not_false, Bool.true_and, Bool.false_and, Bool.and_false, Int.reduceBNe, Int.reduceBEq, Int.reduceLT, Int.reduceLE, decide_true, decide_false]
  refine setnone_ev ho2 h2.hroom.1 ?_
  try simp only [bnd_some, brV_t, brV_f, brG_t, brG_f, newE_u, pickE_t, pickE_f, nilV_p, faV_p, ldE_f, ldE_t, rdA_u, stE_p, cells_int, cells_bool, cells_ptr, cells_slice, cells_func, cells_agg, bin_add, bin_sub, bin_mul, bin_eql, bin_neq, bin_lss, bin_leq, bin_gtr, bin_geq, bin_eqlb, bin_neqb, bin_eqlp, bin_eqlp0, bin_neqp, bin_neqp0, bin_eqls, bin_eqls0, un_not, un_neg, len_s, cap_s, ex_t, cv_i, callV_f, Option.bind_some, Option.map_some, Nat.zero_add, Nat.add_zero, Nat.reduceAdd, Nat.reduceMul, size_newB, size_setB, blk_newB_self, own_newB_self, wrA_b, own_setB_m, blk_setB_m, setB_setB, List.getElem?_toArray, List.getElem?_cons_zero, List.getElem?_cons_succ, List.length_cons, List.length_nil, List.all_cons, List.all_nil, isCell_int, isCell_bool, isCell_ptr, isCell_slice, isCell_func, Bool.and_true, Bool.and_self, and_self, if_true, List.size_toArray, and_true, true_and, Nat.reduceLeDiff, Nat.le_refl, Bool.not_true, Bool.not_false, Bool.true_and, Bool.false_and, Bool.and_false, Int.reduceBNe, Int.reduceBEq, Int.reduceLT, Int.reduceLE, decide_true, decide_false, own_blk ho, own_blk ho2, setC_0]
  refine brV_i (fun heq => ?_) (fun hne => ?_)
  · have heq : room = room2 := by
      have h3 : (room : Int) = room2 := by simpa using heq
      omega
    try simp only [bnd_some, brV_t, brV_f, brG_t, brG_f, newE_u, pickE_t, pickE_f, nilV_p, faV_p, ldE_f, ldE_t, rdA_u, stE_p, cells_int, cells_bool, cells_ptr, cells_slice, cells_func, cells_agg, bin_add, bin_sub, bin_mul, bin_eql, bin_neq, bin_lss, bin_leq, bin_gtr, bin_geq, bin_eqlb, bin_neqb, bin_eqlp, bin_eqlp0, bin_neqp, bin_neqp0, bin_eqls, bin_eqls0, un_not, un_neg, len_s, cap_s, ex_t, cv_i, callV_f, Option.bind_some, Option.map_some, Nat.zero_add, Nat.add_zero, Nat.reduceAdd, Nat.reduceMul, size_newB, size_setB, blk_newB_self, own_newB_self, wrA_b, own_setB_m, blk_setB_m, setB_setB, List.getElem?_toArray, List.getElem?_cons_zero, List.getElem?_cons_succ, List.length_cons, List.length_nil, List.all_cons, List.all_nil, isCell_int, isCell_bool, isCell_ptr, isCell_slice, isCell_func, Bool.and_true, Bool.and_self, and_self, if_true, List.size_toArray, and_true, true_and, Nat.reduceLeDiff, Nat.le_refl, Bool.not_true, Bool.not_false, Bool.true_and, Bool.false_and, Bool.and_false, Int.reduceBNe, Int.reduceBEq, Int.reduceLT, Int.reduceLE, decide_true, decide_false, own_blk ho, own_blk ho2, setC_1]
    refine Equal_ev hl.show hl2.show ?_
    try simp only [bnd_some, brV_t, brV_f, brG_t, brG_f, newE_u, pickE_t, pickE_f, nilV_p, faV_p, ldE_f, ldE_t, rdA_u, stE_p, cells_int, cells_bool, cells_ptr, cells_slice, cells_func, cells_agg, bin_add, bin_sub, bin_mul, bin_eql, bin_neq, bin_lss, bin_leq, bin_gtr, bin_geq, bin_eqlb, bin_neqb, bin_eqlp, bin_eqlp0, bin_neqp, bin_neqp0, bin_eqls, bin_eqls0, un_not, un_neg, len_s, cap_s, ex_t, cv_i, callV_f, Option.bind_some, Option.map_some, Nat.zero_add, Nat.add_zero, Nat.reduceAdd, Nat.reduceMul, size_newB, size_setB, blk_newB_self, own_newB_self, wrA_b, own_setB_m, blk_setB_m, setB_setB, List.getElem?_toArray, List.getElem?_cons_zero, List.getElem?_cons_succ, List.length_cons, List.length_nil, List.all_cons, List.all_nil, isCell_int, isCell_bool, isCell_ptr, isCell_slice, isCell_func, Bool.and_true, Bool.and_self, and_self, if_true, List.size_toArray, and_true, true_and, Nat.reduceLeDiff, Nat.le_refl, Bool.not_true, Bool.not_false, Bool.true_and, Bool.false_and, Bool.and_false, Int.reduceBNe, Int.reduceBEq, Int.reduceLT, Int.reduceLE, decide_true, decide_false, own_blk ho, own_blk ho2, setC_0]
    simpa [heq] using hR
  · have hne : room ≠ room2 := by
      have h3 : (room : Int) ≠ room2 := by simpa using hne
      omega
    try simp only [bnd_some, brV_t, brV_f, brG_t, brG_f, newE_u, pickE_t, pickE_f, nilV_p, faV_p, ldE_f, ldE_t, rdA_u, stE_p, cells_int, cells_bool, cells_ptr, cells_slice, cells_func, cells_agg, bin_add, bin_sub, bin_mul, bin_eql, bin_neq, bin_lss, bin_leq, bin_gtr, bin_geq, bin_eqlb, bin_neqb, bin_eqlp, bin_eqlp0, bin_neqp, bin_neqp0, bin_eqls, bin_eqls0, un_not, un_neg, len_s, cap_s, ex_t, cv_i, callV_f, Option.bind_some, Option.map_some, Nat.zero_add, Nat.add_zero, Nat.reduceAdd, Nat.reduceMul, size_newB, size_setB, blk_newB_self, own_newB_self, wrA_b, own_setB_m, blk_setB_m, setB_setB, List.getElem?_toArray, List.getElem?_cons_zero, List.getElem?_cons_succ, List.length_cons, List.length_nil, List.all_cons, List.all_nil, isCell_int, isCell_bool, isCell_ptr, isCell_slice, isCell_func, Bool.and_true, Bool.and_self, and_self, if_true, List.size_toArray, and_true, true_and, Nat.reduceLeDiff, Nat.le_refl, Bool.not_true, Bool.not_false, Bool.true_and, Bool.false_and, Bool.and_false, Int.reduceBNe, Int.reduceBEq, Int.reduceLT, Int.reduceLE, decide_true, decide_false]
    simpa [hne] using hR
theorem SCopy_ev (h : SetH H s room rs T) (hR : ∀ s' T' H', Ext [] H H' → (∀ b ∈ T', H.size ≤ b) → SetH H' s' room rs T' → R (ptr s') H') : EvF P N.span_Set_Copy #[ptr s] H R := by
  refine span_Set_Copy_ev _ _ _ ?_
  obtain ⟨v, T', ho, hl, rfl, hn⟩ := h.rep
  have hrm := h.hroom
  have hfw := h.few
  simp only [span_Set_Copy_g11, span_Set_Copy_g12, span_Set_Copy_g13, span_Set_Copy_g14, span_Set_Copy]
  try simp only [bnd_some, brV_t, brV_f, brG_t, brG_f, newE_u, pickE_t, pickE_f, nilV_p, faV_p, ldE_f, ldE_t, rdA_u, stE_p, cells_int, cells_bool, cells_ptr, cells_slice, cells_func, cells_agg, bin_add, bin_sub, bin_mul, bin_eql, bin_neq, bin_lss, bin_leq, bin_gtr, bin_geq, bin_eqlb, bin_neqb, bin_eqlp, bin_eqlp0, bin_neqp, bin_neqp0, bin_eqls, bin_eqls0, un_not, un_neg, len_s, cap_s, ex_t, cv_i, callV_f, Option.bind_some, Option.map_some, Nat.zero_add, Nat.add_zero, Nat.reduceAdd, Nat.reduceMul, size_newB, size_setB, blk_newB_self, own_newB_self, wrA_b, own_setB_m, blk_setB_m, setB_setB, List.getElem?_toArray, List.getElem?_cons_zero, List.getElem?_cons_succ, List.length_cons, List.length_nil, List.all_cons, List.all_nil, isCell_int, isCell_bool, isCell_ptr, isCell_slice, isCell_func, Bool.and_true, Bool.and_self, and_self, if_true, List.size_toArray, and_true, true_and, Nat.reduceLeDiff, Nat.le_refl, Bool.not_true, Bool.not_false, Bool.true_and, Bool.false_and, Bool.and_false, Int.reduceBNe, Int.reduceBEq, Int.reduceLT, Int.reduceLE, decide_true, decide_false]
  refine setnone_ev ho h.hroom.1 ?_
  try simp only [bnd_some, brV_t, brV_f, brG_t, brG_f, newE_u, pickE_t, pickE_f, nilV_p, faV_p, ldE_f, ldE_t, rdA_u, stE_p, cells_int, cells_bool, cells_ptr, cells_slice, cells_func, cells_agg, bin_add, bin_sub, bin_mul, bin_eql, bin_neq, bin_lss, bin_leq, bin_gtr, bin_geq, bin_eqlb, bin_neqb, bin_eqlp, bin_eqlp0, bin_neqp, bin_neqp0, bin_eqls, bin_eqls0, un_not, un_neg, len_s, cap_s, ex_t, cv_i, callV_f, Option.bind_some, Option.map_some, Nat.zero_add, Nat.add_zero, Nat.reduceAdd, Nat.reduceMul, size_newB, size_setB, blk_newB_self, own_newB_self, wrA_b, own_setB_m, blk_setB_m, setB_setB, List.getElem?_toArray, List.getElem?_cons_zero, List.getElem?_cons_succ, List.length_cons, List.length_nil, List.all_cons, List.all_nil, isCell_int, isCell_bool, isCell_ptr, isCell_slice, isCell_func, Bool.and_true, Bool.and_self, and_self, if_true, List.size_toArray, and_true, true_and, Nat.reduceLeDiff, Nat.le_refl, Bool.not_true, Bool.not_false, Bool.true_and, Bool.false_and, Bool.and_false, Int.reduceBNe, Int.reduceBEq, Int.reduceLT, Int.reduceLE, decide_true, decide_false, own_blk ho, setC_0, setC_1]
  refine Clone_ev hl (by omega) fun v' S' H1 e1 hS' hl' => ?_
  have ho1 := e1.own ho (by simp)
  have hlt := own_lt ho1
  have hb : buildV #[.int .i64 0, .slice none 0 0] (places [(0, 1), (1, 1)]) [(0, iv room), (1, v')] = some (.agg (setC room v')) := by
    rcases hl'.whole with ⟨rfl, _⟩ | ⟨b, cap, rfl, _⟩ <;> rfl
  have hne : s ≠ H1.size := by omega
  have en : ∀ t c, Ext [] H1 (newB H1 t c) := fun t c => (Ext.refl _ _).newB _ _
  try simp only [bnd_some, brV_t, brV_f, brG_t, brG_f, newE_u, pickE_t, pickE_f, nilV_p, faV_p, ldE_f, ldE_t, rdA_u, stE_p, cells_int, cells_bool, cells_ptr, cells_slice, cells_func, cells_agg, bin_add, bin_sub, bin_mul, bin_eql, bin_neq, bin_lss, bin_leq, bin_gtr, bin_geq, bin_eqlb, bin_neqb, bin_eqlp, bin_eqlp0, bin_neqp, bin_neqp0, bin_eqls, bin_eqls0, un_not, un_neg, len_s, cap_s, ex_t, cv_i, callV_f, Option.bind_some, Option.map_some, Nat.zero_add, Nat.add_zero, Nat.reduceAdd, Nat.reduceMul, size_newB, size_setB, blk_newB_self, own_newB_self, wrA_b, own_setB_m, blk_setB_m, setB_setB, List.getElem?_toArray, List.getElem?_cons_zero, List.getElem?_cons_succ, List.length_cons, List.length_nil, List.all_cons, List.all_nil, isCell_int, isCell_bool, isCell_ptr, isCell_slice, isCell_func, Bool.and_true, Bool.and_self, and_self, if_true, List.size_toArray, and_true, true_and, Nat.reduceLeDiff, Nat.le_refl, Bool.not_true, Bool.not_false, Bool.true_and, Bool.false_and, Bool.and_false, Int.reduceBNe, Int.reduceBEq, Int.reduceLT, Int.reduceLE, decide_true, decide_false, own_blk ho1, setC_0, hb, blk_newB_ne hne]
  have hl1 := hl'.lt
  have hs := e1.size
  refine hR _ (H1.size :: S') _ (e1.trans (en _ _)) (fun b hb => ?_) ⟨⟨v', S', own_newB_self, hl'.ext (en _ _) (by simp), rfl, fun hm => by have := hl1 _ hm; omega⟩, h.hroom, h.ok, h.few⟩
  rcases List.mem_cons.1 hb with rfl | hb
  · exact hs
  · exact hS' b hb

/-- the ranges, the greatest one first, handed on -/
theorem falling_y {H0 : Heap} {a : Nat} (h : SetH H0 s room rs T) (ha : blk H0 a = some #[ptr s]) : Yields P (.func (.func N.span_Set_falling_1) #[] #[ptr a]) H0 (a :: T) rs.reverse (fun x => [.agg (rngC x)]) := by
  intro y H1 I h0 hext step
  have hrm := h.hroom
  have hfw := h.few
  obtain ⟨v, T', ho, hl, rfl, hn⟩ := h.rep
  refine span_Set_falling_1_ev0 _ _ _ _ ?_
  have e1 := hext 0 H1 h0
  have ho1 := own_same ho (e1 s (by simp))
  have ha1 := blk_same ha (e1 a (by simp))
  have w1 : IntKind.i64.wrap ((rs.length : Int) - 1) = (rs.length : Int) - 1 := wrap_in (by omega)
  simp only [span_Set_falling_1_g13, span_Set_falling_1_g15, span_Set_falling_1_g16, span_Set_falling_1_s14, span_Set_falling_1_l20, span_Set_falling_1]
  try simp only [bnd_some, brV_t, brV_f, brG_t, brG_f, newE_u, pickE_t, pickE_f, nilV_p, faV_p, ldE_f, ldE_t, rdA_u, stE_p, cells_int, cells_bool, cells_ptr, cells_slice, cells_func, cells_agg, bin_add, bin_sub, bin_mul, bin_eql, bin_neq, bin_lss, bin_leq, bin_gtr, bin_geq, bin_eqlb, bin_neqb, bin_eqlp, bin_eqlp0, bin_neqp, bin_neqp0, bin_eqls, bin_eqls0, un_not, un_neg, len_s, cap_s, ex_t, cv_i, callV_f, Option.bind_some, Option.map_some, Nat.zero_add, Nat.add_zero, Nat.reduceAdd, Nat.reduceMul, size_newB, size_setB, blk_newB_self, own_newB_self, wrA_b, own_setB_m, blk_setB_m, setB_setB, List.getElem?_toArray, List.getElem?_cons_zero, List.getElem?_cons_succ, List.length_cons, List.length_nil, List.all_cons, List.all_nil, isCell_int, isCell_bool, isCell_ptr, isCell_slice, isCell_func, Bool.and_true, Bool.and_self, and_self, if_true, List.size_toArray, and_true, true_and, Nat.reduceLeDiff, Nat.le_refl, Bool.not_true, Bool.not_false, Bool.true_and, Bool.false_and, Bool.and_false, Int.reduceBNe, Int.reduceBEq, Int.reduceLT, Int.reduceLE, decide_true, decide_false, ha1, own_blk ho1, setC_1, hl.len, w1]
  refine ⟨fun x K => ∃ k : Nat, k ≤ rs.length ∧ x = iv ((rs.length : Int) - 1 - k) ∧ I k K, fun x _ => (match x with | .int _ k => (k + 1).toNat | _ => 0), ⟨0, by omega, by simp, h0⟩, ?_⟩
  rintro x K ⟨k, hk, rfl, hI⟩
  have eK := hext k K hI
  have hoK := own_same ho (eK s (by simp))
  have haK := blk_same ha (eK a (by simp))
  have hlK := hl.same (fun b hb => eK b (by simp [hb]))
  try simp only [bnd_some, brV_t, brV_f, brG_t, brG_f, newE_u, pickE_t, pickE_f, nilV_p, faV_p, ldE_f, ldE_t, rdA_u, stE_p, cells_int, cells_bool, cells_ptr, cells_slice, cells_func, cells_agg, bin_add, bin_sub, bin_mul, bin_eql, bin_neq, bin_lss, bin_leq, bin_gtr, bin_geq, bin_eqlb, bin_neqb, bin_eqlp, bin_eqlp0, bin_neqp, bin_neqp0, bin_eqls, bin_eqls0, un_not, un_neg, len_s, cap_s, ex_t, cv_i, callV_f, Option.bind_some, Option.map_some, Nat.zero_add, Nat.add_zero, Nat.reduceAdd, Nat.reduceMul, size_newB, size_setB, blk_newB_self, own_newB_self, wrA_b, own_setB_m, blk_setB_m, setB_setB, List.getElem?_toArray, List.getElem?_cons_zero, List.getElem?_cons_succ, List.length_cons, List.length_nil, List.all_cons, List.all_nil, isCell_int, isCell_bool, isCell_ptr, isCell_slice, isCell_func, Bool.and_true, Bool.and_self, and_self, if_true, List.size_toArray, and_true, true_and, Nat.reduceLeDiff, Nat.le_refl, Bool.not_true, Bool.not_false, Bool.true_and, Bool.false_and, Bool.and_false, Int.reduceBNe, Int.reduceBEq, Int.reduceLT, Int.reduceLE, decide_true, decide_false]
  refine brV_d (fun hge => ?_) (fun hlt => ?_)
  · have hk' : k < rs.length := by omega
    obtain ⟨b, o, c, i1, i2, i3, i4⟩ := hlK.show.ix (by decide) (show rs.length - 1 - k < rs.length by omega) (show ((rs.length : Int) - 1 - k) = (rs.length - 1 - k : Nat) by omega)
    have i1' : ixSV 2 v (iv ((rs.length : Int) - 1 - k)) = _ := i1
    have i4' : ldE true 2 (.pointer (some ⟨b, o, none⟩)) K = some (.agg (rngC rs[rs.length - 1 - k])) := i4
    try simp only [bnd_some, brV_t, brV_f, brG_t, brG_f, newE_u, pickE_t, pickE_f, nilV_p, faV_p, cells_int, cells_bool, cells_ptr, cells_slice, cells_func, cells_agg, bin_eql, bin_neq, bin_lss, bin_leq, bin_gtr, bin_geq, bin_eqlb, bin_neqb, bin_eqlp, bin_eqlp0, bin_neqp, bin_neqp0, bin_eqls, bin_eqls0, un_not, un_neg, len_s, cap_s, ex_t, cv_i, callV_f, Option.bind_some, Option.map_some, Nat.zero_add, Nat.add_zero, Nat.reduceAdd, Nat.reduceMul, size_newB, size_setB, blk_newB_self, own_newB_self, setB_setB, List.getElem?_toArray, List.getElem?_cons_zero, List.getElem?_cons_succ, List.length_cons, List.length_nil, List.all_cons, List.all_nil, isCell_int, isCell_bool, isCell_ptr, isCell_slice, isCell_func, Bool.and_true, Bool.and_self, and_self, if_true, List.size_toArray, and_true, true_and, Nat.reduceLeDiff, Nat.le_refl, Bool.not_true, Bool.not_false, Bool.true_and, Bool.false_and, Bool.and_false, Int.reduceBNe, Int.reduceBEq, Int.reduceLT, Int.reduceLE, decide_true, decide_false, ldE_f, haK, own_blk hoK, setC_1, i1', i4']
    have hst := step k (by simpa using hk') K hI
    have : rs.reverse[k]'(by simpa using hk') = rs[rs.length - 1 - k] := by rw [List.getElem_reverse]
    rw [this] at hst
    refine callV_mono (fun v' K' hv => ?_) hst
    obtain ⟨rfl, hI'⟩ := hv
    have w2 : IntKind.i64.wrap ((rs.length : Int) - 1 - k - 1) = (rs.length : Int) - 1 - (k + 1 : Nat) := by rw [wrap_in (by omega)]; omega
    try simp only [bnd_some, brV_t, brV_f, brG_t, brG_f, newE_u, pickE_t, pickE_f, nilV_p, faV_p, ldE_f, ldE_t, rdA_u, stE_p, cells_int, cells_bool, cells_ptr, cells_slice, cells_func, cells_agg, bin_add, bin_sub, bin_mul, bin_eql, bin_neq, bin_lss, bin_leq, bin_gtr, bin_geq, bin_eqlb, bin_neqb, bin_eqlp, bin_eqlp0, bin_neqp, bin_neqp0, bin_eqls, bin_eqls0, un_not, un_neg, len_s, cap_s, ex_t, cv_i, callV_f, Option.bind_some, Option.map_some, Nat.zero_add, Nat.add_zero, Nat.reduceAdd, Nat.reduceMul, size_newB, size_setB, blk_newB_self, own_newB_self, wrA_b, own_setB_m, blk_setB_m, setB_setB, List.getElem?_toArray, List.getElem?_cons_zero, List.getElem?_cons_succ, List.length_cons, List.length_nil, List.all_cons, List.all_nil, isCell_int, isCell_bool, isCell_ptr, isCell_slice, isCell_func, Bool.and_true, Bool.and_self, and_self, if_true, List.size_toArray, and_true, true_and, Nat.reduceLeDiff, Nat.le_refl, Bool.not_true, Bool.not_false, Bool.true_and, Bool.false_and, Bool.and_false, Int.reduceBNe, Int.reduceBEq, Int.reduceLT, Int.reduceLE, decide_true, decide_false, w2]
    exact ⟨⟨k + 1, by omega, rfl, hI'⟩, by show _ < _; omega⟩
  · have : k = rs.length := by omega
    subst this
    try simp only [bnd_some, brV_t, brV_f, brG_t, brG_f, newE_u, pickE_t, pickE_f, nilV_p, faV_p, ldE_f, ldE_t, rdA_u, stE_p, cells_int, cells_bool, cells_ptr, cells_slice, cells_func, cells_agg, bin_add, bin_sub, bin_mul, bin_eql, bin_neq, bin_lss, bin_leq, bin_gtr, bin_geq, bin_eqlb, bin_neqb, bin_eqlp, bin_eqlp0, bin_neqp, bin_neqp0, bin_eqls, bin_eqls0, un_not, un_neg, len_s, cap_s, ex_t, cv_i, callV_f, Option.bind_some, Option.map_some, Nat.zero_add, Nat.add_zero, Nat.reduceAdd, Nat.reduceMul, size_newB, size_setB, blk_newB_self, own_newB_self, wrA_b, own_setB_m, blk_setB_m, setB_setB, List.getElem?_toArray, List.getElem?_cons_zero, List.getElem?_cons_succ, List.length_cons, List.length_nil, List.all_cons, List.all_nil, isCell_int, isCell_bool, isCell_ptr, isCell_slice, isCell_func, Bool.and_true, Bool.and_self, and_self, if_true, List.size_toArray, and_true, true_and, Nat.reduceLeDiff, Nat.le_refl, Bool.not_true, Bool.not_false, Bool.true_and, Bool.false_and, Bool.and_false, Int.reduceBNe, Int.reduceBEq, Int.reduceLT, Int.reduceLE, decide_true, decide_false]
    simpa using hI
theorem Ranges_ev (h : SetH H s room rs T) (hR : ∀ v' S' H', Ext [] H H' → (∀ b ∈ S', H.size ≤ b) → OwnL rngE H' v' S' rs.reverse → R v' H') : EvF P N.span_Set_Ranges #[ptr s] H R := by
  refine span_Set_Ranges_ev _ _ _ ?_
  have hrm := h.hroom
  have hfw := h.few
  obtain ⟨v, T', ho, hl, rfl, hn⟩ := h.rep
  simp only [span_Set_Ranges_g11, span_Set_Ranges_g12, span_Set_Ranges_g13, span_Set_Ranges_g14, span_Set_Ranges]
  try simp only [bnd_some, brV_t, brV_f, brG_t, brG_f, newE_u, pickE_t, pickE_f, nilV_p, faV_p, ldE_f, ldE_t, rdA_u, stE_p, cells_int, cells_bool, cells_ptr, cells_slice, cells_func, cells_agg, bin_add, bin_sub, bin_mul, bin_eql, bin_neq, bin_lss, bin_leq, bin_gtr, bin_geq, bin_eqlb, bin_neqb, bin_eqlp, bin_eqlp0, bin_neqp, bin_neqp0, bin_eqls, bin_eqls0, un_not, un_neg, len_s, cap_s, ex_t, cv_i, callV_f, Option.bind_some, Option.map_some, Nat.zero_add, Nat.add_zero, Nat.reduceAdd, Nat.reduceMul, size_newB, size_setB, blk_newB_self, own_newB_self, wrA_b, own_setB_m, blk_setB_m, setB_setB, List.getElem?_toArray, List.getElem?_cons_zero, List.getElem?_cons_succ, List.length_cons, List.length_nil, List.all_cons, List.all_nil, isCell_int, isCell_bool, isCell_ptr, isCell_slice, isCell_func, Bool.and_true, Bool.and_self, and_self, if_true, List.size_toArray, and_true, true_and, Nat.reduceLeDiff, Nat.le_refl, Bool.not_true, Bool.not_false, Bool.true_and, Bool.false_and, Bool.and_false, Int.reduceBNe, Int.reduceBEq, Int.reduceLT, Int.reduceLE, decide_true, decide_false]
  refine setnone_ev ho h.hroom.1 ?_
  try simp only [bnd_some, brV_t, brV_f, brG_t, brG_f, newE_u, pickE_t, pickE_f, nilV_p, faV_p, ldE_f, ldE_t, rdA_u, stE_p, cells_int, cells_bool, cells_ptr, cells_slice, cells_func, cells_agg, bin_add, bin_sub, bin_mul, bin_eql, bin_neq, bin_lss, bin_leq, bin_gtr, bin_geq, bin_eqlb, bin_neqb, bin_eqlp, bin_eqlp0, bin_neqp, bin_neqp0, bin_eqls, bin_eqls0, un_not, un_neg, len_s, cap_s, ex_t, cv_i, callV_f, Option.bind_some, Option.map_some, Nat.zero_add, Nat.add_zero, Nat.reduceAdd, Nat.reduceMul, size_newB, size_setB, blk_newB_self, own_newB_self, wrA_b, own_setB_m, blk_setB_m, setB_setB, List.getElem?_toArray, List.getElem?_cons_zero, List.getElem?_cons_succ, List.length_cons, List.length_nil, List.all_cons, List.all_nil, isCell_int, isCell_bool, isCell_ptr, isCell_slice, isCell_func, Bool.and_true, Bool.and_self, and_self, if_true, List.size_toArray, and_true, true_and, Nat.reduceLeDiff, Nat.le_refl, Bool.not_true, Bool.not_false, Bool.true_and, Bool.false_and, Bool.and_false, Int.reduceBNe, Int.reduceBEq, Int.reduceLT, Int.reduceLE, decide_true, decide_false]
  refine span_Set_falling_ev _ _ _ ?_
  simp only [span_Set_falling_g5, span_Set_falling_g6, span_Set_falling]
  try simp only [bnd_some, brV_t, brV_f, brG_t, brG_f, newE_u, pickE_t, pickE_f, nilV_p, faV_p, ldE_f, ldE_t, rdA_u, stE_p, cells_int, cells_bool, cells_ptr, cells_slice, cells_func, cells_agg, bin_add, bin_sub, bin_mul, bin_eql, bin_neq, bin_lss, bin_leq, bin_gtr, bin_geq, bin_eqlb, bin_neqb, bin_eqlp, bin_eqlp0, bin_neqp, bin_neqp0, bin_eqls, bin_eqls0, un_not, un_neg, len_s, cap_s, ex_t, cv_i, callV_f, Option.bind_some, Option.map_some, Nat.zero_add, Nat.add_zero, Nat.reduceAdd, Nat.reduceMul, size_newB, size_setB, blk_newB_self, own_newB_self, wrA_b, own_setB_m, blk_setB_m, setB_setB, List.getElem?_toArray, List.getElem?_cons_zero, List.getElem?_cons_succ, List.length_cons, List.length_nil, List.all_cons, List.all_nil, isCell_int, isCell_bool, isCell_ptr, isCell_slice, isCell_func, Bool.and_true, Bool.and_self, and_self, if_true, List.size_toArray, and_true, true_and, Nat.reduceLeDiff, Nat.le_refl, Bool.not_true, Bool.not_false, Bool.true_and, Bool.false_and, Bool.and_false, Int.reduceBNe, Int.reduceBEq, Int.reduceLT, Int.reduceLE, decide_true, decide_false]
  have en : ∀ t, Ext [] H (newB H t #[ptr s]) := fun t => (Ext.refl _ _).newB t _
  refine Collect_ev (falling_y (h.ext (en _) (by simp)) blk_newB_self) (fun b hb => ?_) (by simp; omega) fun v' S' H' e' hS' hl' => ?_
  · rw [size_newB]
    rcases List.mem_cons.1 hb with rfl | hb
    · omega
    · have := h.rep.lt b hb; omega
  · exact hR v' S' H' ((en _).trans e') (fun b hb => by have := hS' b hb; rw [size_newB] at this; omega) hl'
theorem Ranges_nil (hR : R (.slice none 0 0) H) : EvF P N.span_Set_Ranges #[.pointer none] H R := by
  refine span_Set_Ranges_ev _ _ _ ?_
  simp only [span_Set_Ranges_g11, span_Set_Ranges_g12, span_Set_Ranges_g13, span_Set_Ranges_g14, span_Set_Ranges]
  try simp only [bnd_some, brV_t, brV_f, brG_t, brG_f, newE_u, pickE_t, pickE_f, nilV_p, faV_p, ldE_f, ldE_t, rdA_u, stE_p, cells_int, cells_bool, cells_ptr, cells_slice, cells_func, cells_agg, bin_add, bin_sub, bin_mul, bin_eql, bin_neq, bin_lss, bin_leq, bin_gtr, bin_geq, bin_eqlb, bin_neqb, bin_eqlp, bin_eqlp0, bin_neqp, bin_neqp0, bin_eqls, bin_eqls0, un_not, un_neg, len_s, cap_s, ex_t, cv_i, callV_f, Option.bind_some, Option.map_some, Nat.zero_add, Nat.add_zero, Nat.reduceAdd, Nat.reduceMul, size_newB, size_setB, blk_newB_self, own_newB_self, wrA_b, own_setB_m, blk_setB_m, setB_setB, List.getElem?_toArray, List.getElem?_cons_zero, List.getElem?_cons_succ, List.length_cons, List.length_nil, List.all_cons, List.all_nil, isCell_int, isCell_bool, isCell_ptr, isCell_slice, isCell_func, Bool.and_true, Bool.and_self, and_self, if_true, List.size_toArray, and_true, true_and, Nat.reduceLeDiff, Nat.le_refl, Bool.not_true, Bool.not_false, Bool.true_and, Bool.false_and, Bool.and_false, Int.reduceBNe, Int.reduceBEq, Int.reduceLT, Int.reduceLE, decide_true, decide_false]
  refine setnone_nil ?_
  try simp only [bnd_some, brV_t, brV_f, brG_t, brG_f, newE_u, pickE_t, pickE_f, nilV_p, faV_p, ldE_f, ldE_t, rdA_u, stE_p, cells_int, cells_bool, cells_ptr, cells_slice, cells_func, cells_agg, bin_add, bin_sub, bin_mul, bin_eql, bin_neq, bin_lss, bin_leq, bin_gtr, bin_geq, bin_eqlb, bin_neqb, bin_eqlp, bin_eqlp0, bin_neqp, bin_neqp0, bin_eqls, bin_eqls0, un_not, un_neg, len_s, cap_s, ex_t, cv_i, callV_f, Option.bind_some, Option.map_some, Nat.zero_add, Nat.add_zero, Nat.reduceAdd, Nat.reduceMul, size_newB, size_setB, blk_newB_self, own_newB_self, wrA_b, own_setB_m, blk_setB_m, setB_setB, List.getElem?_toArray, List.getElem?_cons_zero, List.getElem?_cons_succ, List.length_cons, List.length_nil, List.all_cons, List.all_nil, isCell_int, isCell_bool, isCell_ptr, isCell_slice, isCell_func, Bool.and_true, Bool.and_self, and_self, if_true, List.size_toArray, and_true, true_and, Nat.reduceLeDiff, Nat.le_refl, Bool.not_true, Bool.not_false, Bool.true_and, Bool.false_and, Bool.and_false, Int.reduceBNe, Int.reduceBEq, Int.reduceLT, Int.reduceLE, decide_true, decide_false]
  exact hR
theorem Count_ev (h : SetH H s room rs T) (hR : ∀ H', Ext [] H H' → R (iv (cnt rs)) H') : EvF P N.span_Set_Count #[ptr s] H R := by
  refine span_Set_Count_ev _ _ _ ?_
  have hrm := h.hroom
  have hfw := h.few
  obtain ⟨v, T', ho, hl, rfl, hn⟩ := h.rep
  have e0 : ∀ t c, Ext [] H (newB H t c) := fun t c => (Ext.refl _ _).newB t c
  have hlt := own_lt ho
  simp only [span_Set_Count_g19, span_Set_Count_g20, span_Set_Count_g21, span_Set_Count_g22, span_Set_Count_g27, span_Set_Count]
  try simp only [bnd_some, brV_t, brV_f, brG_t, brG_f, newE_u, pickE_t, pickE_f, nilV_p, faV_p, ldE_f, ldE_t, rdA_u, stE_p, cells_int, cells_bool, cells_ptr, cells_slice, cells_func, cells_agg, bin_add, bin_sub, bin_mul, bin_eql, bin_neq, bin_lss, bin_leq, bin_gtr, bin_geq, bin_eqlb, bin_neqb, bin_eqlp, bin_eqlp0, bin_neqp, bin_neqp0, bin_eqls, bin_eqls0, un_not, un_neg, len_s, cap_s, ex_t, cv_i, callV_f, Option.bind_some, Option.map_some, Nat.zero_add, Nat.add_zero, Nat.reduceAdd, Nat.reduceMul, size_newB, size_setB, blk_newB_self, own_newB_self, wrA_b, own_setB_m, blk_setB_m, setB_setB, List.getElem?_toArray, List.getElem?_cons_zero, List.getElem?_cons_succ, List.length_cons, List.length_nil, List.all_cons, List.all_nil, isCell_int, isCell_bool, isCell_ptr, isCell_slice, isCell_func, Bool.and_true, Bool.and_self, and_self, if_true, List.size_toArray, and_true, true_and, Nat.reduceLeDiff, Nat.le_refl, Bool.not_true, Bool.not_false, Bool.true_and, Bool.false_and, Bool.and_false, Int.reduceBNe, Int.reduceBEq, Int.reduceLT, Int.reduceLE, decide_true, decide_false]
  refine setnone_ev ((e0 _ _).own ho (by simp)) h.hroom.1 ?_
  try simp only [bnd_some, brV_t, brV_f, brG_t, brG_f, newE_u, pickE_t, pickE_f, nilV_p, faV_p, ldE_f, ldE_t, rdA_u, stE_p, cells_int, cells_bool, cells_ptr, cells_slice, cells_func, cells_agg, bin_add, bin_sub, bin_mul, bin_eql, bin_neq, bin_lss, bin_leq, bin_gtr, bin_geq, bin_eqlb, bin_neqb, bin_eqlp, bin_eqlp0, bin_neqp, bin_neqp0, bin_eqls, bin_eqls0, un_not, un_neg, len_s, cap_s, ex_t, cv_i, callV_f, Option.bind_some, Option.map_some, Nat.zero_add, Nat.add_zero, Nat.reduceAdd, Nat.reduceMul, size_newB, size_setB, blk_newB_self, own_newB_self, wrA_b, own_setB_m, blk_setB_m, setB_setB, List.getElem?_toArray, List.getElem?_cons_zero, List.getElem?_cons_succ, List.length_cons, List.length_nil, List.all_cons, List.all_nil, isCell_int, isCell_bool, isCell_ptr, isCell_slice, isCell_func, Bool.and_true, Bool.and_self, and_self, if_true, List.size_toArray, and_true, true_and, Nat.reduceLeDiff, Nat.le_refl, Bool.not_true, Bool.not_false, Bool.true_and, Bool.false_and, Bool.and_false, Int.reduceBNe, Int.reduceBEq, Int.reduceLT, Int.reduceLE, decide_true, decide_false]
  refine span_Set_falling_ev _ _ _ ?_
  simp only [span_Set_falling_g5, span_Set_falling_g6, span_Set_falling]
  try simp only [bnd_some, brV_t, brV_f, brG_t, brG_f, newE_u, pickE_t, pickE_f, nilV_p, faV_p, ldE_f, ldE_t, rdA_u, stE_p, cells_int, cells_bool, cells_ptr, cells_slice, cells_func, cells_agg, bin_add, bin_sub, bin_mul, bin_eql, bin_neq, bin_lss, bin_leq, bin_gtr, bin_geq, bin_eqlb, bin_neqb, bin_eqlp, bin_eqlp0, bin_neqp, bin_neqp0, bin_eqls, bin_eqls0, un_not, un_neg, len_s, cap_s, ex_t, cv_i, callV_f, Option.bind_some, Option.map_some, Nat.zero_add, Nat.add_zero, Nat.reduceAdd, Nat.reduceMul, size_newB, size_setB, blk_newB_self, own_newB_self, wrA_b, own_setB_m, blk_setB_m, setB_setB, List.getElem?_toArray, List.getElem?_cons_zero, List.getElem?_cons_succ, List.length_cons, List.length_nil, List.all_cons, List.all_nil, isCell_int, isCell_bool, isCell_ptr, isCell_slice, isCell_func, Bool.and_true, Bool.and_self, and_self, if_true, List.size_toArray, and_true, true_and, Nat.reduceLeDiff, Nat.le_refl, Bool.not_true, Bool.not_false, Bool.true_and, Bool.false_and, Bool.and_false, Int.reduceBNe, Int.reduceBEq, Int.reduceLT, Int.reduceLE, decide_true, decide_false]
  have e1 : ∀ t c t', Ext [] H (newB (newB H t c) t' #[ptr s]) := fun t c t' => (e0 t c).newB t' _
  intro fn fr hfr hx2
  generalize hK0 : newB (newB H _ _) _ _ = K0
  have eK0 : Ext [] H K0 := by rw [← hK0]; exact e1 _ _ _
  have hsz : K0.size = H.size + 1 + 1 := by rw [← hK0, size_newB, size_newB]
  have hyld : Yields P (.func (.func N.span_Set_falling_1) #[] #[ptr (H.size + 1)]) K0 ((H.size + 1) :: s :: T') rs.reverse (fun x => [.agg (rngC x)]) := by
    refine falling_y (h.ext eK0 (by simp)) ?_
    rw [← hK0, show H.size + 1 = (newB H _ #[Value.int .i64 0]).size from (size_newB _ _ _).symm, blk_newB_self]
  have hq : own K0 H.size = some #[.int .i64 0] := by rw [← hK0, own_newB_ne (by rw [size_newB]; omega), own_newB_self]
  have hlts := h.rep.lt
  have hdl : ∀ k (hk : k < rs.reverse.length), cnt (rs.reverse.take (k + 1)) = cnt (rs.reverse.take k) + (rs.reverse[k].2 - rs.reverse[k].1 + 1) := fun k hk => by
    rw [List.take_add_one, List.getElem?_eq_getElem hk, Option.toList_some, cnt_app]; simp [cnt]
  have hbd : ∀ k, 0 ≤ cnt (rs.reverse.take k) ∧ cnt (rs.reverse.take k) ≤ 9007199254740992 := fun k => by
    have h1 : rs.reverse.take k = (rs.drop (rs.length - k)).reverse := by rw [List.take_reverse]
    rw [h1, cnt_rev]
    have hok : Okr (rs.drop (rs.length - k)) := ⟨fun r hr => h.ok.each r (List.mem_of_mem_drop hr), h.ok.up.sublist (List.drop_sublist _ _)⟩
    have := cnt_bound hok (a := 0) (fun r hr => (hok.each r hr).1) (by omega)
    omega
  have hrng : ∀ k (hk : k < rs.reverse.length), 0 ≤ rs.reverse[k].1 ∧ rs.reverse[k].1 ≤ rs.reverse[k].2 ∧ rs.reverse[k].2 ≤ 9007199254740991 := fun k hk => h.ok.each _ (List.mem_reverse.1 (List.getElem_mem hk))
  refine callL_mono (fun _ H2 hh => ?_) (hyld _ _ (fun k K => Ext [H.size] K0 K ∧ K.arr[(H.size + 1 + 1) + 1]? = some (.loop (span_Set_Count_L fn fr (H.size + 1 + 1))) ∧ K.arr[(H.size + 1 + 1)]? = some (.deferred (some [])) ∧
      own K H.size = some #[iv (cnt (rs.reverse.take k))]) ?_ (fun k K hh b hb => hh.1.same b ?_ ?_) (fun k hk K hh => ?_))
  · obtain ⟨he, h1, h2, h3⟩ := hh
    rw [List.take_length, cnt_rev] at h3
    have hne1 : H.size ≠ (H.size + 1 + 1) + 1 := by omega
    have hne2 : (H.size + 1 + 1) ≠ (H.size + 1 + 1) + 1 := by omega
    have hne3 : H.size ≠ (H.size + 1 + 1) := by omega
    refine ⟨h1, ?_⟩
    have e2 : Ext [] H H2 := eK0.thru he (by simp)
    have e3 : ∀ o, Ext [] H (setO H2 ((H.size + 1 + 1) + 1) o) := fun o => e2.setO _ _ (Or.inr (by omega))
    have hcell : ∀ o, own (setO H2 ((H.size + 1 + 1) + 1) o) H.size = some #[iv (cnt rs)] := fun o => by rw [own_setO_ne hne1]; exact h3
    try simp only [bnd_some, brV_t, brV_f, brG_t, brG_f, newE_u, pickE_t, pickE_f, nilV_p, faV_p, ldE_f, ldE_t, rdA_u, stE_p, cells_int, cells_bool, cells_ptr, cells_slice, cells_func, cells_agg, bin_add, bin_sub, bin_mul, bin_eql, bin_neq, bin_lss, bin_leq, bin_gtr, bin_geq, bin_eqlb, bin_neqb, bin_eqlp, bin_eqlp0, bin_neqp, bin_neqp0, bin_eqls, bin_eqls0, un_not, un_neg, len_s, cap_s, ex_t, cv_i, callV_f, Option.bind_some, Option.map_some, Nat.zero_add, Nat.add_zero, Nat.reduceAdd, Nat.reduceMul, size_newB, size_setB, blk_newB_self, own_newB_self, wrA_b, own_setB_m, blk_setB_m, setB_setB, List.getElem?_toArray, List.getElem?_cons_zero, List.getElem?_cons_succ, List.length_cons, List.length_nil, List.all_cons, List.all_nil, isCell_int, isCell_bool, isCell_ptr, isCell_slice, isCell_func, Bool.and_true, Bool.and_self, and_self, if_true, List.size_toArray, and_true, true_and, Nat.reduceLeDiff, Nat.le_refl, Bool.not_true, Bool.not_false, Bool.true_and, Bool.false_and, Bool.and_false, Int.reduceBNe, Int.reduceBEq, Int.reduceLT, Int.reduceLE, decide_true, decide_false, hcell, own_blk (hcell _), List.size_toArray]
    refine ⟨?_, ?_⟩
    · have e4 := (Ext.refl [H.size] (setO H2 ((H.size + 1 + 1) + 1) (.loop (done (span_Set_Count_L fn fr (H.size + 1 + 1)))))).setB H.size (splice #[iv (cnt rs)] 0 [iv (cnt rs)]) (Or.inl (by simp))
      refine e4.arr ?_ (by simp; omega)
      rw [arr_setO_ne hne2]; exact h2
    · rw [blk_setO_ne hne3]
      have : blk (setB (setO H2 ((H.size + 1 + 1) + 1) (.loop (done (span_Set_Count_L fn fr (H.size + 1 + 1))))) H.size (splice #[iv (cnt rs)] 0 [iv (cnt rs)])) H.size = some #[iv (cnt rs)] := own_blk (own_setB_same (hcell _))
      try simp only [bnd_some, brV_t, brV_f, brG_t, brG_f, newE_u, pickE_t, pickE_f, nilV_p, faV_p, ldE_f, ldE_t, rdA_u, stE_p, cells_int, cells_bool, cells_ptr, cells_slice, cells_func, cells_agg, bin_add, bin_sub, bin_mul, bin_eql, bin_neq, bin_lss, bin_leq, bin_gtr, bin_geq, bin_eqlb, bin_neqb, bin_eqlp, bin_eqlp0, bin_neqp, bin_neqp0, bin_eqls, bin_eqls0, un_not, un_neg, len_s, cap_s, ex_t, cv_i, callV_f, Option.bind_some, Option.map_some, Nat.zero_add, Nat.add_zero, Nat.reduceAdd, Nat.reduceMul, size_newB, size_setB, blk_newB_self, own_newB_self, wrA_b, own_setB_m, blk_setB_m, setB_setB, List.getElem?_toArray, List.getElem?_cons_zero, List.getElem?_cons_succ, List.length_cons, List.length_nil, List.all_cons, List.all_nil, isCell_int, isCell_bool, isCell_ptr, isCell_slice, isCell_func, Bool.and_true, Bool.and_self, and_self, if_true, List.size_toArray, and_true, true_and, Nat.reduceLeDiff, Nat.le_refl, Bool.not_true, Bool.not_false, Bool.true_and, Bool.false_and, Bool.and_false, Int.reduceBNe, Int.reduceBEq, Int.reduceLT, Int.reduceLE, decide_true, decide_false, this]
      exact hR _ (((e3 _).setB _ _ (Or.inr (Nat.le_refl _))).setO _ _ (Or.inr (by omega)))
  · refine ⟨((Ext.refl _ _).pushO _).pushO _, arr_pushO_at (by rw [size_pushO, hsz]), ((Ext.refl [] _).pushO _).arr (arr_pushO_at hsz.symm) (by simp), (((Ext.refl [] _).pushO _).pushO _).own hq (by simp)⟩
  · rcases List.mem_cons.1 hb with rfl | hb
    · omega
    · have := hlts b hb; omega
  · rcases List.mem_cons.1 hb with rfl | hb
    · simp
    · have := hlts b hb; simp; omega
  · obtain ⟨he, h1, h2, h3⟩ := hh
    refine callV_y (span_Set_Count_y fn _ fr hfr _ _ K _ h1 ?_)
    rw [hx2]
    have hK := he.size
    have hlp := arr_lt h1
    have n1 : H.size ≠ K.size := by omega
    have n2 : K.size ≠ (H.size + 1 + 1) + 1 := by omega
    have n3 : H.size ≠ (H.size + 1 + 1) + 1 := by omega
    have n4 : (H.size + 1 + 1) ≠ (H.size + 1 + 1) + 1 := by omega
    have g1 := hrng k hk
    have g2 := hbd k
    have g3 := hbd (k + 1)
    have g4 := hdl k hk
    have w1 : IntKind.i64.wrap (rs.reverse[k].2 - rs.reverse[k].1) = rs.reverse[k].2 - rs.reverse[k].1 := wrap_in (by omega)
    have w2 : IntKind.i64.wrap (rs.reverse[k].2 - rs.reverse[k].1 + 1) = rs.reverse[k].2 - rs.reverse[k].1 + 1 := wrap_in (by omega)
    have w3 : IntKind.i64.wrap (cnt (rs.reverse.take k) + (rs.reverse[k].2 - rs.reverse[k].1 + 1)) = cnt (rs.reverse.take (k + 1)) := by rw [wrap_in (by omega), g4]
    simp only [span_Set_Count_r, span_Set_Count_g26, span_Set_Count_s23, span_Set_Count_g24]
    have en : ∀ t c c', Ext [] K (setB (newB K t c) K.size c') := fun t c c' => ((Ext.refl _ _).newB t c).setB _ _ (Or.inr (Nat.le_refl _))
    have hz4 : (#[Value.int .i64 0, Value.int .i64 0] : Array Value).size = 2 := rfl
    have hloc : splice #[Value.int .i64 0, Value.int .i64 0] 0 (rngC rs.reverse[k]).toList = rngC rs.reverse[k] := rfl
    try simp only [bnd_some, brV_t, brV_f, brG_t, brG_f, newE_u, pickE_t, pickE_f, nilV_p, faV_p, ldE_f, ldE_t, rdA_u, stE_p, cells_int, cells_bool, cells_ptr, cells_slice, cells_func, cells_agg, bin_add, bin_sub, bin_mul, bin_eql, bin_neq, bin_lss, bin_leq, bin_gtr, bin_geq, bin_eqlb, bin_neqb, bin_eqlp, bin_eqlp0, bin_neqp, bin_neqp0, bin_eqls, bin_eqls0, un_not, un_neg, len_s, cap_s, ex_t, cv_i, callV_f, Option.bind_some, Option.map_some, Nat.zero_add, Nat.add_zero, Nat.reduceAdd, Nat.reduceMul, size_newB, size_setB, blk_newB_self, own_newB_self, wrA_b, own_setB_m, blk_setB_m, setB_setB, List.getElem?_toArray, List.getElem?_cons_zero, List.getElem?_cons_succ, List.length_cons, List.length_nil, List.all_cons, List.all_nil, isCell_int, isCell_bool, isCell_ptr, isCell_slice, isCell_func, Bool.and_true, Bool.and_self, and_self, if_true, List.size_toArray, and_true, true_and, Nat.reduceLeDiff, Nat.le_refl, Bool.not_true, Bool.not_false, Bool.true_and, Bool.false_and, Bool.and_false, Int.reduceBNe, Int.reduceBEq, Int.reduceLT, Int.reduceLE, decide_true, decide_false, hloc, rngC_s, rngC_l, rngC_a, hz4, blk_setO_ne n2, blk_setO_ne n3, own_setO_ne n3, own_setB_ne n1, blk_newB_ne n1, own_newB_ne n1, blk_setB_ne n1, own_blk h3, h3, rngC_0, rngC_1, w1, w2, w3]
    refine ⟨(en _ _ _).arr h1 (by simp), ?_⟩
    have q0 : ∀ t c c' o, (setO (setB (newB K t c) K.size c') (H.size + 1 + 1 + 1) o).arr[H.size + 1 + 1 + 1]? = some o := fun t c c' o => arr_setO_self (by rw [size_setB, size_newB]; omega)
    have q1 : ∀ t c c' o, Ext [H.size + 1 + 1 + 1] K (setO (setB (newB K t c) K.size c') (H.size + 1 + 1 + 1) o) := fun t c c' o => ((en t c c').mono (by simp)).setO _ _ (Or.inl (by simp))
    have q2 : ∀ (K' : Heap) c, Ext [H.size] K' (setB K' H.size c) := fun K' c => (Ext.refl _ _).setB _ _ (Or.inl (by simp))
    have q3 : ∀ t c c' o, own (setO (setB (newB K t c) K.size c') (H.size + 1 + 1 + 1) o) H.size = some #[iv (cnt (rs.reverse.take k))] := fun t c c' o => (q1 t c c' o).own h3 (by simp; omega)
    refine ⟨(q2 _ _).arr (q0 _ _ _ _) (by simp; omega), ?_, arr_setO_self (by rw [size_setB, size_setO, size_setB, size_newB]; omega), ?_, ?_⟩
    · exact ((he.thru (q1 _ _ _ _) (by simp; omega)).thru (q2 _ _) (by simp)).setO _ _ (Or.inr (by omega))
    · rw [arr_setO_ne n4]
      exact (q2 _ _).arr ((q1 _ _ _ _).arr h2 (by simp)) (by simp; omega)
    · rfl
end

/-- a set of ours -/
def setA (s room : Nat) (rs : List Rng) : Asr where
  holds H T := SetH H s room rs T
  stable := fun {H H' T} a h => by
    obtain ⟨⟨v, T', h1, h2, rfl, h3⟩, b, c, d⟩ := a
    refine ⟨⟨v, T', own_same h1 (h _ (by simp)), ?_, rfl, h3⟩, b, c, d⟩
    cases h2 with
    | nil => exact .nil
    | mk ho hr hc hl hm => exact .mk (own_same ho (h _ (by simp))) hr hc hl hm
  lt := fun a => a.rep.lt
end Go.Hc

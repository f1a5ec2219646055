/- SentParts. -/
import Derived.Test.YtchdnhbkjfdnmaaS06I
set_option linter.unusedSimpArgs false
set_option linter.unusedVariables false
namespace Go.Hc
open Go

theorem within_join {a b c : Int} (h1 : a ≤ b + 1) (h2 : b ≤ c) : ∀ {L : List Pkt} (_ : RiseL L), within a b L ++ within (b + 1) c L = within a c L
  | [], _ => rfl
  | p :: L, hr => by
    have ih := within_join h1 h2 (List.pairwise_cons.1 hr).2
    by_cases hp : p.num ≤ b
    · have e2 : within (b + 1) c (p :: L) = within (b + 1) c L := by
        unfold within; rw [List.filter_cons, if_neg (by simp; omega)]
      rw [e2]
      by_cases ha : a ≤ p.num
      · have e1 : within a b (p :: L) = p :: within a b L := by unfold within; rw [List.filter_cons, if_pos (by simp; omega)]
        have e3 : within a c (p :: L) = p :: within a c L := by unfold within; rw [List.filter_cons, if_pos (by simp; omega)]
        rw [e1, e3, List.cons_append, ih]
      · have e1 : within a b (p :: L) = within a b L := by unfold within; rw [List.filter_cons, if_neg (by simp; omega)]
        have e3 : within a c (p :: L) = within a c L := by unfold within; rw [List.filter_cons, if_neg (by simp; omega)]
        rw [e1, e3, ih]
    · have hall : ∀ q ∈ p :: L, b < q.num := by
        intro q hq
        rcases List.mem_cons.1 hq with rfl | hq
        · omega
        · have := (List.pairwise_cons.1 hr).1 q hq; omega
      have e1 : within a b (p :: L) = [] := by
        unfold within; rw [List.filter_eq_nil_iff]; intro q hq; have := hall q hq; simp; omega
      have e2 : within (b + 1) c (p :: L) = within a c (p :: L) := by
        unfold within; apply List.filter_congr; intro q hq; have := hall q hq
        congr 1; simp; omega
      rw [e1, e2, List.nil_append]
theorem within_len {a b : Int} {L : List Pkt} : (within a b L).length ≤ L.length := List.length_filter_le _ _

set_option maxHeartbeats 800000 in
theorem Parts_tail {H H2 : Heap} {a0 a1 last : Int} {x3 b i : Nat} {L : List Pkt} {R : Value → Heap → Prop} (h0 : In64 a0) (h1 : In64 a1) (hR : ∀ H', Ext [] H H' → R (.bool true) H')
    (hi60 : i ≤ 60) (hL : L.length ≤ i) (hl0 : -1 ≤ last) (hl1 : last ≤ 5 * i - 1) (h : Sep H H2 [logA b 256 last L, cellsA x3 #[iv a0, iv a1]]) :
    sounderlaw06_SentParts_g83 (fun x5 x7 x9 x10 H => sounderlaw06_SentParts_g84 (fun x5 x7 x11 x12 H => sounderlaw06_SentParts_g85 (fun x5 x11 x12 x13 x14 x15 H => sounderlaw06_SentParts_g86 (fun x5 x11 x12 x13 x14 x15 x16 H => sounderlaw06_SentParts_l96 x5 x11 x12 x13 x14 x15 x16 R H) x5 x11 x12 x13 x14 x15 H) x5 x7 x11 x12 H) x5 x7 x9 x10 H) (ptr x3) (ptr b) (iv last) H2 := by
  obtain ⟨hrise, hmay, hfew, _⟩ := h.log
  simp only [sounderlaw06_SentParts_g64, sounderlaw06_SentParts_g65, sounderlaw06_SentParts_g66, sounderlaw06_SentParts_g67, sounderlaw06_SentParts_g68, sounderlaw06_SentParts_g69, sounderlaw06_SentParts_g71, sounderlaw06_SentParts_g73, sounderlaw06_SentParts_g78, sounderlaw06_SentParts_g79, sounderlaw06_SentParts_g80, sounderlaw06_SentParts_g81, sounderlaw06_SentParts_g82, sounderlaw06_SentParts_g83, sounderlaw06_SentParts_g84, sounderlaw06_SentParts_g85, sounderlaw06_SentParts_g86, sounderlaw06_SentParts_g88, sounderlaw06_SentParts_g89, sounderlaw06_SentParts_g90, sounderlaw06_SentParts_g91, sounderlaw06_SentParts_g92, sounderlaw06_SentParts_l96, sounderlaw06_SentParts_l97, sounderlaw06_SentParts, sounderlaw06_SentParts_s87]
  have ix0 : ixAV 1 2 (ptr x3) (.int .i64 0) = some (ptr x3) := by rw [ixA_u (by omega)]; rfl
  have ix1 : ixAV 1 2 (ptr x3) (.int .i64 1) = some (.pointer (some ⟨x3, 1, none⟩)) := by rw [ixA_u (by omega)]; rfl
  have l0 : ldE false 1 (ptr x3) H2 = some (iv a0) := ld_ptr (own_blk h.b1.cells) rfl
  have l1 : ldE false 1 (.pointer (some ⟨x3, 1, none⟩)) H2 = some (iv a1) := ld_ptr (own_blk h.b1.cells) rfl
  have w3 : binV .int .add (iv last) (.int .i64 3) = some (iv (last + 3)) := bin_addw (by omega)
  simp only [bnd_some, brV_t, brV_f, newE_u, pickE_t, pickE_f, nilV_p, faV_p, cells_int, cells_bool, cells_ptr, cells_slice, cells_func, cells_agg, bin_eql, bin_neq, bin_lss, bin_leq, bin_gtr, bin_geq, bin_eqlb, bin_neqb, bin_eqlp, bin_eqlp0, bin_neqp, bin_neqp0, bin_eqls, bin_eqls0, un_not, un_neg, len_s, ex_t, cv_i, callV_f, Option.bind_some, Option.map_some, Nat.zero_add, Nat.add_zero, Nat.reduceAdd, Nat.reduceMul, size_newB, size_setB, blk_newB_self, own_newB_self, setB_setB, List.getElem?_toArray, List.getElem?_cons_zero, List.getElem?_cons_succ, List.length_cons, List.length_nil, List.all_cons, List.all_nil, isCell_int, isCell_bool, isCell_ptr, isCell_slice, isCell_func, Bool.and_true, Bool.and_self, and_self, if_true, List.size_toArray, and_true, true_and, Nat.reduceLeDiff, Nat.le_refl, Bool.not_true, Bool.not_false, Bool.true_and, Bool.false_and, Bool.and_false, Int.reduceBNe, Int.reduceBEq, Int.reduceLT, Int.reduceLE, decide_true, decide_false, ix0, ix1, l0, l1, w3]
  refine Bring_ev h0 (by omega) ?_
  have hb0 := bring_r (i := a0) (n := last + 3) (by omega)
  have hb1 := bring_r (i := a1) (n := last + 3) (by omega)
  generalize bring a0 (last + 3) = k0 at hb0 ⊢
  have w4 : ∀ k, 0 ≤ k ∧ k < last + 3 → binV .int .sub (iv k) (.int .i64 1) = some (iv (k - 1)) := fun k hk => bin_subw (by omega)
  simp only [bnd_some, brV_t, brV_f, newE_u, pickE_t, pickE_f, nilV_p, faV_p, cells_int, cells_bool, cells_ptr, cells_slice, cells_func, cells_agg, bin_eql, bin_neq, bin_lss, bin_leq, bin_gtr, bin_geq, bin_eqlb, bin_neqb, bin_eqlp, bin_eqlp0, bin_neqp, bin_neqp0, bin_eqls, bin_eqls0, un_not, un_neg, len_s, ex_t, cv_i, callV_f, Option.bind_some, Option.map_some, Nat.zero_add, Nat.add_zero, Nat.reduceAdd, Nat.reduceMul, size_newB, size_setB, blk_newB_self, own_newB_self, setB_setB, List.getElem?_toArray, List.getElem?_cons_zero, List.getElem?_cons_succ, List.length_cons, List.length_nil, List.all_cons, List.all_nil, isCell_int, isCell_bool, isCell_ptr, isCell_slice, isCell_func, Bool.and_true, Bool.and_self, and_self, if_true, List.size_toArray, and_true, true_and, Nat.reduceLeDiff, Nat.le_refl, Bool.not_true, Bool.not_false, Bool.true_and, Bool.false_and, Bool.and_false, Int.reduceBNe, Int.reduceBEq, Int.reduceLT, Int.reduceLE, decide_true, decide_false, l1, w4 k0 hb0]
  refine Bring_ev h1 (by omega) ?_
  generalize bring a1 (last + 3) = k1 at hb1 ⊢
  simp only [w4 k1 hb1, bnd_some]
  obtain ⟨lo, hi, e1, e2, hlo, hlh, hhi⟩ : ∃ lo hi, foldV min2V (iv (k0 - 1)) [iv (k1 - 1)] = some (iv lo) ∧ foldV max2V (iv (k0 - 1)) [iv (k1 - 1)] = some (iv hi) ∧ -1 ≤ lo ∧ lo ≤ hi ∧ hi ≤ last + 1 := by
    by_cases hk : k1 < k0
    · refine ⟨k1 - 1, k0 - 1, ?_, ?_, by omega, by omega, by omega⟩
      · simp only [foldV, min2V]; rw [if_pos (by omega)]
      · simp only [foldV, max2V]; rw [if_neg (by omega)]
    · refine ⟨k0 - 1, k1 - 1, ?_, ?_, by omega, by omega, by omega⟩
      · simp only [foldV, min2V]; rw [if_neg (by omega)]
      · simp only [foldV, max2V]
        by_cases he : k1 - 1 > k0 - 1
        · rw [if_pos he]
        · rw [if_neg he]; have : k0 = k1 := by omega
          rw [this]
  simp only [e1, e2, bnd_some]
  refine Between_sep h fun H3 v13 h => ?_
  have w5 : binV .int .add (iv lo) (.int .i64 1) = some (iv (lo + 1)) := bin_addw (by omega)
  have w6 : binV .int .add (iv hi) (.int .i64 1) = some (iv (hi + 1)) := bin_addw (by omega)
  have w7 : binV .int .add (iv last) (.int .i64 9) = some (iv (last + 9)) := bin_addw (by omega)
  simp only [w5, bnd_some]
  refine Between_sep h.b1 fun H4 v14 h => ?_
  simp only [w6, w7, bnd_some]
  refine Between_sep h.b1 fun H5 v15 h => ?_
  have hy := within_len (a := lo + 1) (b := hi) (L := L)
  have hxl := within_len (a := -5) (b := lo) (L := L)
  have hzl := within_len (a := hi + 1) (b := last + 9) (L := L)
  refine ⟨fun x H' => H' = H5 ∧ ∃ j : Nat, x = iv j ∧ j ≤ (within (lo + 1) hi L).length, fun x _ => (match x with | Value.int _ j => ((within (lo + 1) hi L).length - j).toNat | _ => 0), ⟨rfl, 0, rfl, by omega⟩, ?_⟩
  rintro x H' ⟨rfl, j, rfl, hj⟩
  obtain ⟨T, ho⟩ := h.b2.list
  have w8 : binV .int .add (iv j) (.int .i64 1) = some (iv ((j + 1 : Nat) : Int)) := by rw [bin_addw (by omega)]; rfl
  simp only [bnd_some, brV_t, brV_f, newE_u, pickE_t, pickE_f, nilV_p, faV_p, cells_int, cells_bool, cells_ptr, cells_slice, cells_func, cells_agg, bin_eql, bin_neq, bin_lss, bin_leq, bin_gtr, bin_geq, bin_eqlb, bin_neqb, bin_eqlp, bin_eqlp0, bin_neqp, bin_neqp0, bin_eqls, bin_eqls0, un_not, un_neg, len_s, ex_t, cv_i, callV_f, Option.bind_some, Option.map_some, Nat.zero_add, Nat.add_zero, Nat.reduceAdd, Nat.reduceMul, size_newB, size_setB, blk_newB_self, own_newB_self, setB_setB, List.getElem?_toArray, List.getElem?_cons_zero, List.getElem?_cons_succ, List.length_cons, List.length_nil, List.all_cons, List.all_nil, isCell_int, isCell_bool, isCell_ptr, isCell_slice, isCell_func, Bool.and_true, Bool.and_self, and_self, if_true, List.size_toArray, and_true, true_and, Nat.reduceLeDiff, Nat.le_refl, Bool.not_true, Bool.not_false, Bool.true_and, Bool.false_and, Bool.and_false, Int.reduceBNe, Int.reduceBEq, Int.reduceLT, Int.reduceLE, decide_true, decide_false, ho.len]
  refine brV_d (fun hlt => ?_) (fun hlt => ?_)
  · have hjl : j < (within (lo + 1) hi L).length := by omega
    obtain ⟨yb, yo, yc, hxx, hd, hcell, _⟩ := ho.show.ix (by decide) hjl (j := j) rfl
    have hx' : ixSV 6 v14 (iv j) = _ := hxx
    have hln : ldE false 1 (.pointer (some ⟨yb, yo, none⟩)) H' = some (iv (within (lo + 1) hi L)[j].num) := ld_ptr hd (by have := hcell 0 (by decide); exact this)
    have hmem := List.getElem_mem hjl
    have hw := (List.mem_filter.1 hmem).2
    simp only [Bool.and_eq_true, decide_eq_true_eq] at hw
    have d1 : ¬ (within (lo + 1) hi L)[j].num ≤ lo := by omega
    have d2 : ¬ hi < (within (lo + 1) hi L)[j].num := by omega
    simp only [bnd_some, brV_t, brV_f, newE_u, pickE_t, pickE_f, nilV_p, faV_p, cells_int, cells_bool, cells_ptr, cells_slice, cells_func, cells_agg, bin_eql, bin_neq, bin_lss, bin_leq, bin_gtr, bin_geq, bin_eqlb, bin_neqb, bin_eqlp, bin_eqlp0, bin_neqp, bin_neqp0, bin_eqls, bin_eqls0, un_not, un_neg, len_s, ex_t, cv_i, callV_f, Option.bind_some, Option.map_some, Nat.zero_add, Nat.add_zero, Nat.reduceAdd, Nat.reduceMul, size_newB, size_setB, blk_newB_self, own_newB_self, setB_setB, List.getElem?_toArray, List.getElem?_cons_zero, List.getElem?_cons_succ, List.length_cons, List.length_nil, List.all_cons, List.all_nil, isCell_int, isCell_bool, isCell_ptr, isCell_slice, isCell_func, Bool.and_true, Bool.and_self, and_self, if_true, List.size_toArray, and_true, true_and, Nat.reduceLeDiff, Nat.le_refl, Bool.not_true, Bool.not_false, Bool.true_and, Bool.false_and, Bool.and_false, Int.reduceBNe, Int.reduceBEq, Int.reduceLT, Int.reduceLE, decide_true, decide_false, hx', hln, d1, d2, w8, decide_false]
    exact ⟨⟨j + 1, rfl, by omega⟩, by omega⟩
  · -- append, and compare
    refine appE_sep (E := pktE) (l := within (-5) lo L) (m := within (lo + 1) hi L) h.b3 ?_ (by omega) (by decide) (by omega) fun H6 v120 h => ?_
    · exact ho.show
    obtain ⟨T2, hz⟩ := h.b1.list
    refine appE_sep (E := pktE) (m := within (hi + 1) (last + 9) L) h hz.show (by simp only [List.length_append]; omega) (by decide) (by simp only [List.length_append]; omega) fun H7 v122 h => ?_
    have hjoin : within (-5) lo L ++ within (lo + 1) hi L ++ within (hi + 1) (last + 9) L = L := by
      rw [within_join (by omega) (by omega) hrise, within_join (by omega) (by omega) hrise]
      unfold within
      rw [List.filter_eq_self]; intro p hp
      have := hmay p hp
      have hm := this.1
      unfold May at hm; simp; omega
    rw [hjoin] at h
    refine All_sep h.b2 fun H8 v124 h => ?_
    obtain ⟨T3, ha⟩ := h.list
    obtain ⟨T4, hb⟩ := h.b2.list
    refine equal_ev hb.show ha.show ?_
    have e3 : decide (L = L) = true := by simp
    simp only [bnd_some, brV_t, brV_f, newE_u, pickE_t, pickE_f, nilV_p, faV_p, cells_int, cells_bool, cells_ptr, cells_slice, cells_func, cells_agg, bin_eql, bin_neq, bin_lss, bin_leq, bin_gtr, bin_geq, bin_eqlb, bin_neqb, bin_eqlp, bin_eqlp0, bin_neqp, bin_neqp0, bin_eqls, bin_eqls0, un_not, un_neg, len_s, ex_t, cv_i, callV_f, Option.bind_some, Option.map_some, Nat.zero_add, Nat.add_zero, Nat.reduceAdd, Nat.reduceMul, size_newB, size_setB, blk_newB_self, own_newB_self, setB_setB, List.getElem?_toArray, List.getElem?_cons_zero, List.getElem?_cons_succ, List.length_cons, List.length_nil, List.all_cons, List.all_nil, isCell_int, isCell_bool, isCell_ptr, isCell_slice, isCell_func, Bool.and_true, Bool.and_self, and_self, if_true, List.size_toArray, and_true, true_and, Nat.reduceLeDiff, Nat.le_refl, Bool.not_true, Bool.not_false, Bool.true_and, Bool.false_and, Bool.and_false, Int.reduceBNe, Int.reduceBEq, Int.reduceLT, Int.reduceLE, decide_true, decide_false, e3, w6]
    refine Between_sep h.b1 fun H9 v131 h => ?_
    have e4 : within (hi + 1) hi L = [] := by
      unfold within; rw [List.filter_eq_nil_iff]; intro q hq; simp; omega
    rw [e4] at h
    obtain ⟨T5, hn⟩ := h.list
    have e5 : lenV v131 = some (iv 0) := hn.len
    simp only [bnd_some, brV_t, brV_f, newE_u, pickE_t, pickE_f, nilV_p, faV_p, cells_int, cells_bool, cells_ptr, cells_slice, cells_func, cells_agg, bin_eql, bin_neq, bin_lss, bin_leq, bin_gtr, bin_geq, bin_eqlb, bin_neqb, bin_eqlp, bin_eqlp0, bin_neqp, bin_neqp0, bin_eqls, bin_eqls0, un_not, un_neg, len_s, ex_t, cv_i, callV_f, Option.bind_some, Option.map_some, Nat.zero_add, Nat.add_zero, Nat.reduceAdd, Nat.reduceMul, size_newB, size_setB, blk_newB_self, own_newB_self, setB_setB, List.getElem?_toArray, List.getElem?_cons_zero, List.getElem?_cons_succ, List.length_cons, List.length_nil, List.all_cons, List.all_nil, isCell_int, isCell_bool, isCell_ptr, isCell_slice, isCell_func, Bool.and_true, Bool.and_self, and_self, if_true, List.size_toArray, and_true, true_and, Nat.reduceLeDiff, Nat.le_refl, Bool.not_true, Bool.not_false, Bool.true_and, Bool.false_and, Bool.and_false, Int.reduceBNe, Int.reduceBEq, Int.reduceLT, Int.reduceLE, decide_true, decide_false, e5, BEq.rfl]
    exact works_ev fun H10 he => hR _ (h.only.trans he)
set_option maxHeartbeats 800000 in
theorem Parts_ev {H : Heap} {v : Value} {l : List Row} {a0 a1 : Int} {R : Value → Heap → Prop} (h0 : In64 a0) (h1 : In64 a1) (hv : ShowA rowE H v l) (hin : ∀ x ∈ l, InRow x) (hR : ∀ H', Ext [] H H' → R (.bool true) H') :
    EvF P N.sounderlaw06_SentParts #[v, .agg #[iv a0, iv a1]] H R := by
  refine sounderlaw06_SentParts_ev _ _ _ _ ?_
  simp only [sounderlaw06_SentParts_g64, sounderlaw06_SentParts_g65, sounderlaw06_SentParts_g66, sounderlaw06_SentParts_g67, sounderlaw06_SentParts_g68, sounderlaw06_SentParts_g69, sounderlaw06_SentParts_g71, sounderlaw06_SentParts_g73, sounderlaw06_SentParts_g78, sounderlaw06_SentParts_g79, sounderlaw06_SentParts_g80, sounderlaw06_SentParts_g81, sounderlaw06_SentParts_g82, sounderlaw06_SentParts_l97, sounderlaw06_SentParts, sounderlaw06_SentParts_s70, sounderlaw06_SentParts_s72]
  simp only [bnd_some, brV_t, brV_f, newE_u, pickE_t, pickE_f, nilV_p, faV_p, cells_int, cells_bool, cells_ptr, cells_slice, cells_func, cells_agg, bin_eql, bin_neq, bin_lss, bin_leq, bin_gtr, bin_geq, bin_eqlb, bin_neqb, bin_eqlp, bin_eqlp0, bin_neqp, bin_neqp0, bin_eqls, bin_eqls0, un_not, un_neg, len_s, ex_t, cv_i, callV_f, Option.bind_some, Option.map_some, Nat.zero_add, Nat.add_zero, Nat.reduceAdd, Nat.reduceMul, size_newB, size_setB, blk_newB_self, own_newB_self, setB_setB, List.getElem?_toArray, List.getElem?_cons_zero, List.getElem?_cons_succ, List.length_cons, List.length_nil, List.all_cons, List.all_nil, isCell_int, isCell_bool, isCell_ptr, isCell_slice, isCell_func, Bool.and_true, Bool.and_self, and_self, if_true, List.size_toArray, and_true, true_and, Nat.reduceLeDiff, Nat.le_refl, Bool.not_true, Bool.not_false, Bool.true_and, Bool.false_and, Bool.and_false, Int.reduceBNe, Int.reduceBEq, Int.reduceLT, Int.reduceLE, decide_true, decide_false]
  have hx := (Sep.nil H).newC (t := 44) (c := #[iv a0, iv a1])
  generalize hx3 : H.size = x3 at hx
  refine New_sep hx (fun h => absurd ⟨by decide, by decide⟩ h) fun room b H1 hr _ _ h => ?_
  obtain rfl : room = 256 := by omega
  simp only [bnd_some, brV_t, brV_f, newE_u, pickE_t, pickE_f, nilV_p, faV_p, cells_int, cells_bool, cells_ptr, cells_slice, cells_func, cells_agg, bin_eql, bin_neq, bin_lss, bin_leq, bin_gtr, bin_geq, bin_eqlb, bin_neqb, bin_eqlp, bin_eqlp0, bin_neqp, bin_neqp0, bin_eqls, bin_eqls0, un_not, un_neg, len_s, ex_t, cv_i, callV_f, Option.bind_some, Option.map_some, Nat.zero_add, Nat.add_zero, Nat.reduceAdd, Nat.reduceMul, size_newB, size_setB, blk_newB_self, own_newB_self, setB_setB, List.getElem?_toArray, List.getElem?_cons_zero, List.getElem?_cons_succ, List.length_cons, List.length_nil, List.all_cons, List.all_nil, isCell_int, isCell_bool, isCell_ptr, isCell_slice, isCell_func, Bool.and_true, Bool.and_self, and_self, if_true, List.size_toArray, and_true, true_and, Nat.reduceLeDiff, Nat.le_refl, Bool.not_true, Bool.not_false, Bool.true_and, Bool.false_and, Bool.and_false, Int.reduceBNe, Int.reduceBEq, Int.reduceLT, Int.reduceLE, decide_true, decide_false]
  refine ⟨fun w7 w8 H' => ∃ (i : Nat) (last : Int) (L : List Pkt), w7 = iv last ∧ w8 = iv i ∧ i ≤ l.length ∧ i ≤ 60 ∧ L.length ≤ i ∧ -1 ≤ last ∧ last ≤ 5 * i - 1 ∧ Sep H H' [logA b 256 last L, cellsA x3 #[iv a0, iv a1]],
    fun _ w _ => (match w with | Value.int _ i => (60 - i).toNat | _ => 0), ⟨0, -1, [], rfl, rfl, by omega, by omega, by simp, by omega, by omega, h⟩, ?_⟩
  clear h hx
  rintro w7 w8 H2 ⟨i, last, L, rfl, rfl, hil, hi60, hL, hl0, hl1, h⟩
  have hsm := hv.small
  have w1 : binV .int .add (iv i) (.int .i64 1) = some (iv ((i + 1 : Nat) : Int)) := by rw [bin_addw (by omega)]; rfl
  simp only [bnd_some, brV_t, brV_f, newE_u, pickE_t, pickE_f, nilV_p, faV_p, cells_int, cells_bool, cells_ptr, cells_slice, cells_func, cells_agg, bin_eql, bin_neq, bin_lss, bin_leq, bin_gtr, bin_geq, bin_eqlb, bin_neqb, bin_eqlp, bin_eqlp0, bin_neqp, bin_neqp0, bin_eqls, bin_eqls0, un_not, un_neg, len_s, ex_t, cv_i, callV_f, Option.bind_some, Option.map_some, Nat.zero_add, Nat.add_zero, Nat.reduceAdd, Nat.reduceMul, size_newB, size_setB, blk_newB_self, own_newB_self, setB_setB, List.getElem?_toArray, List.getElem?_cons_zero, List.getElem?_cons_succ, List.length_cons, List.length_nil, List.all_cons, List.all_nil, isCell_int, isCell_bool, isCell_ptr, isCell_slice, isCell_func, Bool.and_true, Bool.and_self, and_self, if_true, List.size_toArray, and_true, true_and, Nat.reduceLeDiff, Nat.le_refl, Bool.not_true, Bool.not_false, Bool.true_and, Bool.false_and, Bool.and_false, Int.reduceBNe, Int.reduceBEq, Int.reduceLT, Int.reduceLE, decide_true, decide_false, hv.len]
  -- behind the rows
  have tail : ∀ h : Sep H H2 [logA b 256 last L, cellsA x3 #[iv a0, iv a1]], _ := fun h => Parts_tail (i := i) h0 h1 hR hi60 hL hl0 hl1 h
  refine brV_d (fun hlt => ?_) (fun hlt => ?_)
  · refine brV_d (fun hlt2 => ?_) (fun hlt2 => ?_)
    · have hi : i < l.length := by omega
      have hrow := hin _ (List.getElem_mem hi)
      obtain ⟨ab, ao, ac, hx', hc, hcell, _⟩ := hv.ix (by decide) hi (j := i) rfl
      have hx : ixSV 4 v (iv i) = some (.pointer (some ⟨ab, ao, none⟩)) := hx'
      have hk0 : ldE false 1 (.pointer (some ⟨ab, ao, none⟩)) H = some (iv l[i].kind) := ld_ptr hc (hcell 0 (by decide))
      have hk1 : ldE false 1 (.pointer (some ⟨ab, ao + 1, none⟩)) H = some (iv l[i].n) := ld_ptr hc (hcell 1 (by decide))
      have hk2 : ldE false 1 (.pointer (some ⟨ab, ao + 2, none⟩)) H = some (iv l[i].size) := ld_ptr hc (hcell 2 (by decide))
      have w2 : binV .int .add (iv last) (.int .i64 1) = some (iv (last + 1)) := bin_addw (by omega)
      simp only [bnd_some, brV_t, brV_f, newE_u, pickE_t, pickE_f, nilV_p, faV_p, cells_int, cells_bool, cells_ptr, cells_slice, cells_func, cells_agg, bin_eql, bin_neq, bin_lss, bin_leq, bin_gtr, bin_geq, bin_eqlb, bin_neqb, bin_eqlp, bin_eqlp0, bin_neqp, bin_neqp0, bin_eqls, bin_eqls0, un_not, un_neg, len_s, ex_t, cv_i, callV_f, Option.bind_some, Option.map_some, Nat.zero_add, Nat.add_zero, Nat.reduceAdd, Nat.reduceMul, size_newB, size_setB, blk_newB_self, own_newB_self, setB_setB, List.getElem?_toArray, List.getElem?_cons_zero, List.getElem?_cons_succ, List.length_cons, List.length_nil, List.all_cons, List.all_nil, isCell_int, isCell_bool, isCell_ptr, isCell_slice, isCell_func, Bool.and_true, Bool.and_self, and_self, if_true, List.size_toArray, and_true, true_and, Nat.reduceLeDiff, Nat.le_refl, Bool.not_true, Bool.not_false, Bool.true_and, Bool.false_and, Bool.and_false, Int.reduceBNe, Int.reduceBEq, Int.reduceLT, Int.reduceLE, decide_true, decide_false, w2, hx, ld_ext h.only hk1]
      refine Bring_ev hrow.2.1 (by omega) ?_
      have hb := bring_r (i := l[i].n) (n := 5) (by omega)
      generalize bring l[i].n 5 = k at hb
      have w3 : binV .int .add (iv (last + 1)) (iv k) = some (iv (last + 1 + k)) := bin_addw (by omega)
      simp only [w3, bnd_some]
      refine one_sep h fun H3 h => ?_
      refine Put_sep h fun H4 h => ?_
      have hp : putE 256 last L (oneP (last + 1 + k)) = 0 := by
        have h1 : May (oneP (last + 1 + k)) := may_one (by omega)
        have h2 : ¬ (oneP (last + 1 + k)).num ≤ last := by show ¬ last + 1 + k ≤ last; omega
        have h3 : L.length ≠ 256 := by omega
        simp [putE, h1, h2, h3]
      simp only [hp, show (oneP (last + 1 + k)).num = last + 1 + k from rfl] at h ⊢
      simp only [if_true] at h
      simp only [bnd_some, brV_t, brV_f, newE_u, pickE_t, pickE_f, nilV_p, faV_p, cells_int, cells_bool, cells_ptr, cells_slice, cells_func, cells_agg, bin_eql, bin_neq, bin_lss, bin_leq, bin_gtr, bin_geq, bin_eqlb, bin_neqb, bin_eqlp, bin_eqlp0, bin_neqp, bin_neqp0, bin_eqls, bin_eqls0, un_not, un_neg, len_s, ex_t, cv_i, callV_f, Option.bind_some, Option.map_some, Nat.zero_add, Nat.add_zero, Nat.reduceAdd, Nat.reduceMul, size_newB, size_setB, blk_newB_self, own_newB_self, setB_setB, List.getElem?_toArray, List.getElem?_cons_zero, List.getElem?_cons_succ, List.length_cons, List.length_nil, List.all_cons, List.all_nil, isCell_int, isCell_bool, isCell_ptr, isCell_slice, isCell_func, Bool.and_true, Bool.and_self, and_self, if_true, List.size_toArray, and_true, true_and, Nat.reduceLeDiff, Nat.le_refl, Bool.not_true, Bool.not_false, Bool.true_and, Bool.false_and, Bool.and_false, Int.reduceBNe, Int.reduceBEq, Int.reduceLT, Int.reduceLE, decide_true, decide_false, hx, ld_ext h.only hk0]
      refine Bring_ev hrow.1 (by omega) ?_
      simp only [bin_eql, bnd_some]
      refine brV_i (fun _ => ?_) (fun _ => ?_)
      · simp only [ld_ext h.only hk2, bnd_some]
        refine Bring_ev hrow.2.2.1 (by omega) ?_
        have hb2 := bring_r (i := l[i].size) (n := 9) (by omega)
        generalize bring l[i].size 9 = k2 at hb2
        have w4 : binV .int .sub (iv (last + 1 + k)) (iv k2) = some (iv (last + 1 + k - k2)) := bin_subw (by omega)
        simp only [w4, bnd_some]
        refine Drop_sep h fun H5 h => ?_
        simp only [w1, bnd_some]
        have hfl : ((L ++ [oneP (last + 1 + k)]).filter fun p => p.num != last + 1 + k - k2).length ≤ L.length + 1 := Nat.le_trans (List.length_filter_le _ _) (by simp)
        exact ⟨⟨i + 1, last + 1 + k, _, rfl, rfl, by omega, by omega, by omega, by omega, by omega, h⟩, by omega⟩
      · simp only [w1, bnd_some]
        exact ⟨⟨i + 1, last + 1 + k, _, rfl, rfl, by omega, by omega, by simp; omega, by omega, by omega, h⟩, by omega⟩
    · exact tail h
  · exact tail h
end Go.Hc

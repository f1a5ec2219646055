/- SentSums: the deeds, and the whole. -/
import Derived.Test.YtchdnhbkjfdnmaaS06Sums
set_option linter.unusedSimpArgs false
set_option linter.unusedVariables false
namespace Go.Hc
open Go

theorem newA_sep {H0 H : Heap} {Qs : List Asr} {t : TypeId} {n : Nat} {z c : Array Value} (h : Sep H0 H Qs) (hz : z.size = n) (hc : c.size = n) (ha : c.toList.all isCell = true) :
    ∃ H', stE n (ptr H.size) (.agg c) (newB H t z) = some H' ∧ Sep H0 H' (cellsA H.size c :: Qs) := by
  refine ⟨newB H t c, ?_, h.newC⟩
  simp only [stE_p, cells_agg, hc, if_true]
  rw [wrA_u own_newB_self (by simp [hz, hc]) ha, setB_newB_self, splice_all (by simp [hz, hc])]

/-- the packet that a row asks for -/
def rowP (x : Row) (last : Int) (i : Nat) : Pkt := ⟨last, i, 1 + bring x.size 65535, bring x.bits 2 == 1, decide (1 < bring x.bits 4), false⟩
theorem Sums_pkt {H H2 : Heap} {Qs : List Asr} {x9 i : Nat} {x : Row} {last : Int} {v0 bb v5 v6 : Value} {S : Value → Value → Value → Value → Value → Value → Value → Heap → Prop} (h : Sep H H2 (cellsA x9 (rowC x) :: Qs)) (hin : InRow x)
    (hS : ∀ H' x10, Sep H H' (cellsA x10 (pktC (rowP x last i)) :: cellsA x9 (rowC x) :: Qs) → S v0 bb v5 v6 (iv last) (iv i) (ptr x10) H') :
    sounderlaw06_SentSums_g158 S v0 bb v5 v6 (iv last) (iv i) (ptr x9) H2 := by
  have l2 : ldE false 1 (.pointer (some ⟨x9, 2, none⟩)) H2 = some (iv x.size) := ld_ptr (own_blk h.cells) rfl
  have l3 : ldE false 1 (.pointer (some ⟨x9, 3, none⟩)) H2 = some (iv x.bits) := ld_ptr (own_blk h.cells) rfl
  have hn := h.newC (t := 30) (c := pktC pkt0)
  have m2 : ldE false 1 (.pointer (some ⟨x9, 2, none⟩)) (newB H2 30 (pktC pkt0)) = some (iv x.size) := ld_ptr (own_blk hn.b1.cells) rfl
  have m3 : ldE false 1 (.pointer (some ⟨x9, 3, none⟩)) (newB H2 30 (pktC pkt0)) = some (iv x.bits) := ld_ptr (own_blk hn.b1.cells) rfl
  obtain ⟨H3, hst, h3⟩ := newP_sep (p := pkt0) (q := rowP x last i) (t := 30) h
  have fin := hS H3 _ h3
  have hb := bring_r (i := x.size) (n := 65535) (by omega)
  have w : binV .int .add (.int .i64 1) (iv (bring x.size 65535)) = some (iv (1 + bring x.size 65535)) := bin_addw (by omega)
  have hbu : buildV (pktC pkt0) (places [(0, 1), (1, 1), (2, 1), (3, 1), (4, 1), (5, 1)]) [(0, iv last), (1, iv i), (2, iv (1 + bring x.size 65535)), (3, .bool (bring x.bits 2 == 1)), (4, .bool (decide (1 < bring x.bits 4)))] = some (pv (rowP x last i)) := rfl
  have B1 : ∀ {H' : Heap} {R : Value → Heap → Prop}, R (iv (bring x.size 65535)) H' → EvF P N.sounderref00_Bring #[iv x.size, iv 65535] H' R := fun h => Bring_ev hin.2.2.1 (by omega) h
  have B2 : ∀ {H' : Heap} {R : Value → Heap → Prop}, R (iv (bring x.bits 2)) H' → EvF P N.sounderref00_Bring #[iv x.bits, iv 2] H' R := fun h => Bring_ev hin.2.2.2 (by omega) h
  have B3 : ∀ {H' : Heap} {R : Value → Heap → Prop}, R (iv (bring x.bits 4)) H' → EvF P N.sounderref00_Bring #[iv x.bits, iv 4] H' R := fun h => Bring_ev hin.2.2.2 (by omega) h
  simp only [sounderlaw06_SentSums_g158]
  simp only [bnd_some, brV_t, brV_f, newE_u, pickE_t, pickE_f, nilV_p, faV_p, cells_int, cells_bool, cells_ptr, cells_slice, cells_func, cells_agg, bin_eql, bin_neq, bin_lss, bin_leq, bin_gtr, bin_geq, bin_eqlb, bin_neqb, bin_eqlp, bin_eqlp0, bin_neqp, bin_neqp0, bin_eqls, bin_eqls0, un_not, un_neg, len_s, ex_t, cv_i, callV_f, Option.bind_some, Option.map_some, Nat.zero_add, Nat.add_zero, Nat.reduceAdd, Nat.reduceMul, size_newB, size_setB, blk_newB_self, own_newB_self, setB_setB, List.getElem?_toArray, List.getElem?_cons_zero, List.getElem?_cons_succ, List.length_cons, List.length_nil, List.all_cons, List.all_nil, isCell_int, isCell_bool, isCell_ptr, isCell_slice, isCell_func, Bool.and_true, Bool.and_self, and_self, if_true, List.size_toArray, and_true, true_and, Nat.reduceLeDiff, Nat.le_refl, Bool.not_true, Bool.not_false, Bool.true_and, Bool.false_and, Bool.and_false, Int.reduceBNe, Int.reduceBEq, Int.reduceLT, Int.reduceLE, decide_true, decide_false, l2, l3, m2, m3, pkt0_C]
  refine ⟨?_, ?_⟩
  · refine B1 ?_
    simp only [bnd_some, brV_t, brV_f, newE_u, pickE_t, pickE_f, nilV_p, faV_p, cells_int, cells_bool, cells_ptr, cells_slice, cells_func, cells_agg, bin_eql, bin_neq, bin_lss, bin_leq, bin_gtr, bin_geq, bin_eqlb, bin_neqb, bin_eqlp, bin_eqlp0, bin_neqp, bin_neqp0, bin_eqls, bin_eqls0, un_not, un_neg, len_s, ex_t, cv_i, callV_f, Option.bind_some, Option.map_some, Nat.zero_add, Nat.add_zero, Nat.reduceAdd, Nat.reduceMul, size_newB, size_setB, blk_newB_self, own_newB_self, setB_setB, List.getElem?_toArray, List.getElem?_cons_zero, List.getElem?_cons_succ, List.length_cons, List.length_nil, List.all_cons, List.all_nil, isCell_int, isCell_bool, isCell_ptr, isCell_slice, isCell_func, Bool.and_true, Bool.and_self, and_self, if_true, List.size_toArray, and_true, true_and, Nat.reduceLeDiff, Nat.le_refl, Bool.not_true, Bool.not_false, Bool.true_and, Bool.false_and, Bool.and_false, Int.reduceBNe, Int.reduceBEq, Int.reduceLT, Int.reduceLE, decide_true, decide_false, l2, l3, m2, m3, pkt0_C, w]
    refine ⟨?_, ?_⟩
    · refine B2 ?_
      simp only [bnd_some, brV_t, brV_f, newE_u, pickE_t, pickE_f, nilV_p, faV_p, cells_int, cells_bool, cells_ptr, cells_slice, cells_func, cells_agg, bin_eql, bin_neq, bin_lss, bin_leq, bin_gtr, bin_geq, bin_eqlb, bin_neqb, bin_eqlp, bin_eqlp0, bin_neqp, bin_neqp0, bin_eqls, bin_eqls0, un_not, un_neg, len_s, ex_t, cv_i, callV_f, Option.bind_some, Option.map_some, Nat.zero_add, Nat.add_zero, Nat.reduceAdd, Nat.reduceMul, size_newB, size_setB, blk_newB_self, own_newB_self, setB_setB, List.getElem?_toArray, List.getElem?_cons_zero, List.getElem?_cons_succ, List.length_cons, List.length_nil, List.all_cons, List.all_nil, isCell_int, isCell_bool, isCell_ptr, isCell_slice, isCell_func, Bool.and_true, Bool.and_self, and_self, if_true, List.size_toArray, and_true, true_and, Nat.reduceLeDiff, Nat.le_refl, Bool.not_true, Bool.not_false, Bool.true_and, Bool.false_and, Bool.and_false, Int.reduceBNe, Int.reduceBEq, Int.reduceLT, Int.reduceLE, decide_true, decide_false, l2, l3, m2, m3, pkt0_C]
      refine ⟨?_, ?_⟩
      · refine B3 ?_
        simp only [bnd_some, brV_t, brV_f, newE_u, pickE_t, pickE_f, nilV_p, faV_p, cells_int, cells_bool, cells_ptr, cells_slice, cells_func, cells_agg, bin_eql, bin_neq, bin_lss, bin_leq, bin_gtr, bin_geq, bin_eqlb, bin_neqb, bin_eqlp, bin_eqlp0, bin_neqp, bin_neqp0, bin_eqls, bin_eqls0, un_not, un_neg, len_s, ex_t, cv_i, callV_f, Option.bind_some, Option.map_some, Nat.zero_add, Nat.add_zero, Nat.reduceAdd, Nat.reduceMul, size_newB, size_setB, blk_newB_self, own_newB_self, setB_setB, List.getElem?_toArray, List.getElem?_cons_zero, List.getElem?_cons_succ, List.length_cons, List.length_nil, List.all_cons, List.all_nil, isCell_int, isCell_bool, isCell_ptr, isCell_slice, isCell_func, Bool.and_true, Bool.and_self, and_self, if_true, List.size_toArray, and_true, true_and, Nat.reduceLeDiff, Nat.le_refl, Bool.not_true, Bool.not_false, Bool.true_and, Bool.false_and, Bool.and_false, Int.reduceBNe, Int.reduceBEq, Int.reduceLT, Int.reduceLE, decide_true, decide_false, pkt0_C, hbu, hst]
        exact fin
      · refine B3 ?_
        simp only [bnd_some, brV_t, brV_f, newE_u, pickE_t, pickE_f, nilV_p, faV_p, cells_int, cells_bool, cells_ptr, cells_slice, cells_func, cells_agg, bin_eql, bin_neq, bin_lss, bin_leq, bin_gtr, bin_geq, bin_eqlb, bin_neqb, bin_eqlp, bin_eqlp0, bin_neqp, bin_neqp0, bin_eqls, bin_eqls0, un_not, un_neg, len_s, ex_t, cv_i, callV_f, Option.bind_some, Option.map_some, Nat.zero_add, Nat.add_zero, Nat.reduceAdd, Nat.reduceMul, size_newB, size_setB, blk_newB_self, own_newB_self, setB_setB, List.getElem?_toArray, List.getElem?_cons_zero, List.getElem?_cons_succ, List.length_cons, List.length_nil, List.all_cons, List.all_nil, isCell_int, isCell_bool, isCell_ptr, isCell_slice, isCell_func, Bool.and_true, Bool.and_self, and_self, if_true, List.size_toArray, and_true, true_and, Nat.reduceLeDiff, Nat.le_refl, Bool.not_true, Bool.not_false, Bool.true_and, Bool.false_and, Bool.and_false, Int.reduceBNe, Int.reduceBEq, Int.reduceLT, Int.reduceLE, decide_true, decide_false, pkt0_C, hbu, hst]
        exact fin
    · refine B2 ?_
      simp only [bnd_some, brV_t, brV_f, newE_u, pickE_t, pickE_f, nilV_p, faV_p, cells_int, cells_bool, cells_ptr, cells_slice, cells_func, cells_agg, bin_eql, bin_neq, bin_lss, bin_leq, bin_gtr, bin_geq, bin_eqlb, bin_neqb, bin_eqlp, bin_eqlp0, bin_neqp, bin_neqp0, bin_eqls, bin_eqls0, un_not, un_neg, len_s, ex_t, cv_i, callV_f, Option.bind_some, Option.map_some, Nat.zero_add, Nat.add_zero, Nat.reduceAdd, Nat.reduceMul, size_newB, size_setB, blk_newB_self, own_newB_self, setB_setB, List.getElem?_toArray, List.getElem?_cons_zero, List.getElem?_cons_succ, List.length_cons, List.length_nil, List.all_cons, List.all_nil, isCell_int, isCell_bool, isCell_ptr, isCell_slice, isCell_func, Bool.and_true, Bool.and_self, and_self, if_true, List.size_toArray, and_true, true_and, Nat.reduceLeDiff, Nat.le_refl, Bool.not_true, Bool.not_false, Bool.true_and, Bool.false_and, Bool.and_false, Int.reduceBNe, Int.reduceBEq, Int.reduceLT, Int.reduceLE, decide_true, decide_false, l2, l3, m2, m3, pkt0_C]
      refine B3 ?_
      simp only [bnd_some, brV_t, brV_f, newE_u, pickE_t, pickE_f, nilV_p, faV_p, cells_int, cells_bool, cells_ptr, cells_slice, cells_func, cells_agg, bin_eql, bin_neq, bin_lss, bin_leq, bin_gtr, bin_geq, bin_eqlb, bin_neqb, bin_eqlp, bin_eqlp0, bin_neqp, bin_neqp0, bin_eqls, bin_eqls0, un_not, un_neg, len_s, ex_t, cv_i, callV_f, Option.bind_some, Option.map_some, Nat.zero_add, Nat.add_zero, Nat.reduceAdd, Nat.reduceMul, size_newB, size_setB, blk_newB_self, own_newB_self, setB_setB, List.getElem?_toArray, List.getElem?_cons_zero, List.getElem?_cons_succ, List.length_cons, List.length_nil, List.all_cons, List.all_nil, isCell_int, isCell_bool, isCell_ptr, isCell_slice, isCell_func, Bool.and_true, Bool.and_self, and_self, if_true, List.size_toArray, and_true, true_and, Nat.reduceLeDiff, Nat.le_refl, Bool.not_true, Bool.not_false, Bool.true_and, Bool.false_and, Bool.and_false, Int.reduceBNe, Int.reduceBEq, Int.reduceLT, Int.reduceLE, decide_true, decide_false, pkt0_C, hbu, hst]
      exact fin
  · refine B1 ?_
    simp only [bnd_some, brV_t, brV_f, newE_u, pickE_t, pickE_f, nilV_p, faV_p, cells_int, cells_bool, cells_ptr, cells_slice, cells_func, cells_agg, bin_eql, bin_neq, bin_lss, bin_leq, bin_gtr, bin_geq, bin_eqlb, bin_neqb, bin_eqlp, bin_eqlp0, bin_neqp, bin_neqp0, bin_eqls, bin_eqls0, un_not, un_neg, len_s, ex_t, cv_i, callV_f, Option.bind_some, Option.map_some, Nat.zero_add, Nat.add_zero, Nat.reduceAdd, Nat.reduceMul, size_newB, size_setB, blk_newB_self, own_newB_self, setB_setB, List.getElem?_toArray, List.getElem?_cons_zero, List.getElem?_cons_succ, List.length_cons, List.length_nil, List.all_cons, List.all_nil, isCell_int, isCell_bool, isCell_ptr, isCell_slice, isCell_func, Bool.and_true, Bool.and_self, and_self, if_true, List.size_toArray, and_true, true_and, Nat.reduceLeDiff, Nat.le_refl, Bool.not_true, Bool.not_false, Bool.true_and, Bool.false_and, Bool.and_false, Int.reduceBNe, Int.reduceBEq, Int.reduceLT, Int.reduceLE, decide_true, decide_false, l2, l3, m2, m3, pkt0_C, w]
    refine B2 ?_
    simp only [bnd_some, brV_t, brV_f, newE_u, pickE_t, pickE_f, nilV_p, faV_p, cells_int, cells_bool, cells_ptr, cells_slice, cells_func, cells_agg, bin_eql, bin_neq, bin_lss, bin_leq, bin_gtr, bin_geq, bin_eqlb, bin_neqb, bin_eqlp, bin_eqlp0, bin_neqp, bin_neqp0, bin_eqls, bin_eqls0, un_not, un_neg, len_s, ex_t, cv_i, callV_f, Option.bind_some, Option.map_some, Nat.zero_add, Nat.add_zero, Nat.reduceAdd, Nat.reduceMul, size_newB, size_setB, blk_newB_self, own_newB_self, setB_setB, List.getElem?_toArray, List.getElem?_cons_zero, List.getElem?_cons_succ, List.length_cons, List.length_nil, List.all_cons, List.all_nil, isCell_int, isCell_bool, isCell_ptr, isCell_slice, isCell_func, Bool.and_true, Bool.and_self, and_self, if_true, List.size_toArray, and_true, true_and, Nat.reduceLeDiff, Nat.le_refl, Bool.not_true, Bool.not_false, Bool.true_and, Bool.false_and, Bool.and_false, Int.reduceBNe, Int.reduceBEq, Int.reduceLT, Int.reduceLE, decide_true, decide_false, l2, l3, m2, m3, pkt0_C]
    refine B3 ?_
    simp only [bnd_some, brV_t, brV_f, newE_u, pickE_t, pickE_f, nilV_p, faV_p, cells_int, cells_bool, cells_ptr, cells_slice, cells_func, cells_agg, bin_eql, bin_neq, bin_lss, bin_leq, bin_gtr, bin_geq, bin_eqlb, bin_neqb, bin_eqlp, bin_eqlp0, bin_neqp, bin_neqp0, bin_eqls, bin_eqls0, un_not, un_neg, len_s, ex_t, cv_i, callV_f, Option.bind_some, Option.map_some, Nat.zero_add, Nat.add_zero, Nat.reduceAdd, Nat.reduceMul, size_newB, size_setB, blk_newB_self, own_newB_self, setB_setB, List.getElem?_toArray, List.getElem?_cons_zero, List.getElem?_cons_succ, List.length_cons, List.length_nil, List.all_cons, List.all_nil, isCell_int, isCell_bool, isCell_ptr, isCell_slice, isCell_func, Bool.and_true, Bool.and_self, and_self, if_true, List.size_toArray, and_true, true_and, Nat.reduceLeDiff, Nat.le_refl, Bool.not_true, Bool.not_false, Bool.true_and, Bool.false_and, Bool.and_false, Int.reduceBNe, Int.reduceBEq, Int.reduceLT, Int.reduceLE, decide_true, decide_false, pkt0_C, hbu, hst]
    exact fin
theorem theres_set {sl : List (Pkt × Bool)} {k : Nat} (hk : k < sl.length) : theres (sl.set k (sl[k].1, false)) = (theres sl).set k false := by simp [theres, List.map_set]
theorem puts_set {sl : List (Pkt × Bool)} {k : Nat} (hk : k < sl.length) : puts (sl.set k (sl[k].1, false)) = puts sl := by
  unfold puts
  rw [List.map_set]
  have : (sl.map (·.1))[k]'(by simpa using hk) = sl[k].1 := by simp
  rw [← this, List.set_getElem_self]
theorem up_set {sl : List (Pkt × Bool)} (h : Up sl) {i : Nat} (hi : i < sl.length) : Up (sl.set i (sl[i].1, false)) := by
  refine List.pairwise_iff_getElem.2 fun j k hj hk hjk => ?_
  rw [List.length_set] at hj hk
  have := h.lt hj hk hjk
  simp only [List.getElem_set]
  split <;> split <;> simp_all

set_option maxHeartbeats 1600000 in
set_option maxRecDepth 20000 in
theorem Sums_ev {H : Heap} {v : Value} {l : List Row} {R : Value → Heap → Prop} (hv : ShowA rowE H v l) (hin : ∀ x ∈ l, InRow x) (hR : ∀ H', Ext [] H H' → R (.bool true) H') :
    EvF P N.sounderlaw06_SentSums #[v] H R := by
  refine sounderlaw06_SentSums_ev _ _ _ ?_
  simp only [sounderlaw06_SentSums_g111, sounderlaw06_SentSums_g112, sounderlaw06_SentSums_g113, sounderlaw06_SentSums_g114, sounderlaw06_SentSums_g115, sounderlaw06_SentSums_g116, sounderlaw06_SentSums_g117, sounderlaw06_SentSums_g118, sounderlaw06_SentSums_g119, sounderlaw06_SentSums_g120, sounderlaw06_SentSums_g122, sounderlaw06_SentSums_g123, sounderlaw06_SentSums_g156, sounderlaw06_SentSums_g157, sounderlaw06_SentSums_g159, sounderlaw06_SentSums_g160, sounderlaw06_SentSums_g161, sounderlaw06_SentSums_g162, sounderlaw06_SentSums_g163, sounderlaw06_SentSums_g164, sounderlaw06_SentSums_g165, sounderlaw06_SentSums_g166, sounderlaw06_SentSums_g167, sounderlaw06_SentSums_g168, sounderlaw06_SentSums_l169, sounderlaw06_SentSums, sounderlaw06_SentSums_s121]
  refine works_ev fun Hw hw => ?_
  simp only [bnd_some, brV_t, brV_f, newE_u, pickE_t, pickE_f, nilV_p, faV_p, cells_int, cells_bool, cells_ptr, cells_slice, cells_func, cells_agg, bin_eql, bin_neq, bin_lss, bin_leq, bin_gtr, bin_geq, bin_eqlb, bin_neqb, bin_eqlp, bin_eqlp0, bin_neqp, bin_neqp0, bin_eqls, bin_eqls0, un_not, un_neg, len_s, ex_t, cv_i, callV_f, Option.bind_some, Option.map_some, Nat.zero_add, Nat.add_zero, Nat.reduceAdd, Nat.reduceMul, size_newB, size_setB, blk_newB_self, own_newB_self, setB_setB, List.getElem?_toArray, List.getElem?_cons_zero, List.getElem?_cons_succ, List.length_cons, List.length_nil, List.all_cons, List.all_nil, isCell_int, isCell_bool, isCell_ptr, isCell_slice, isCell_func, Bool.and_true, Bool.and_self, and_self, if_true, List.size_toArray, and_true, true_and, Nat.reduceLeDiff, Nat.le_refl, Bool.not_true, Bool.not_false, Bool.true_and, Bool.false_and, Bool.and_false, Int.reduceBNe, Int.reduceBEq, Int.reduceLT, Int.reduceLE, decide_true, decide_false]
  refine New_sep ((Sep.nil H).ext hw) (fun h => absurd ⟨by decide, by decide⟩ h) fun room b H1 hr _ _ h => ?_
  obtain rfl : room = 256 := by omega
  simp only [bnd_some, brV_t, brV_f, newE_u, pickE_t, pickE_f, nilV_p, faV_p, cells_int, cells_bool, cells_ptr, cells_slice, cells_func, cells_agg, bin_eql, bin_neq, bin_lss, bin_leq, bin_gtr, bin_geq, bin_eqlb, bin_neqb, bin_eqlp, bin_eqlp0, bin_neqp, bin_neqp0, bin_eqls, bin_eqls0, un_not, un_neg, len_s, ex_t, cv_i, callV_f, Option.bind_some, Option.map_some, Nat.zero_add, Nat.add_zero, Nat.reduceAdd, Nat.reduceMul, size_newB, size_setB, blk_newB_self, own_newB_self, setB_setB, List.getElem?_toArray, List.getElem?_cons_zero, List.getElem?_cons_succ, List.length_cons, List.length_nil, List.all_cons, List.all_nil, isCell_int, isCell_bool, isCell_ptr, isCell_slice, isCell_func, Bool.and_true, Bool.and_self, and_self, if_true, List.size_toArray, and_true, true_and, Nat.reduceLeDiff, Nat.le_refl, Bool.not_true, Bool.not_false, Bool.true_and, Bool.false_and, Bool.and_false, Int.reduceBNe, Int.reduceBEq, Int.reduceLT, Int.reduceLE, decide_true, decide_false]
  refine ⟨fun w5 w6 w7 w8 H' => ∃ (i : Nat) (last : Int) (sl : List (Pkt × Bool)), w7 = iv last ∧ w8 = iv i ∧ i ≤ l.length ∧ i ≤ 120 ∧ SumSt H H' b w5 w6 last i sl,
    fun _ _ _ w _ => (match w with | Value.int _ i => (120 - i).toNat | _ => 0),
    ⟨0, -1, [], rfl, rfl, by omega, by omega, ⟨?_, by simp [Up], by simp, by simp, by omega, by omega⟩⟩, ?_⟩
  · exact ((h.new (Ext.refl _ _) (Q := lstA boolE (.slice none 0 0) []) (T := []) OwnL.nil (by simp)).new (Ext.refl _ _) (Q := lstA pktE (.slice none 0 0) []) (T := []) OwnL.nil (by simp)).b2
  clear h
  rintro w5 w6 w7 w8 H2 ⟨i, last, sl, rfl, rfl, hil, hi120, h⟩
  have hs := h.sep
  have hsm := hv.small
  have hlen := h.len
  have hlo := h.lo
  have hhi := h.hi
  have hll := live_len (sl := sl)
  have hpl : (puts sl).length = sl.length := by simp [puts]
  have htl : (theres sl).length = sl.length := by simp [theres]
  simp only [bnd_some, brV_t, brV_f, newE_u, pickE_t, pickE_f, nilV_p, faV_p, cells_int, cells_bool, cells_ptr, cells_slice, cells_func, cells_agg, bin_eql, bin_neq, bin_lss, bin_leq, bin_gtr, bin_geq, bin_eqlb, bin_neqb, bin_eqlp, bin_eqlp0, bin_neqp, bin_neqp0, bin_eqls, bin_eqls0, un_not, un_neg, len_s, ex_t, cv_i, callV_f, Option.bind_some, Option.map_some, Nat.zero_add, Nat.add_zero, Nat.reduceAdd, Nat.reduceMul, size_newB, size_setB, blk_newB_self, own_newB_self, setB_setB, List.getElem?_toArray, List.getElem?_cons_zero, List.getElem?_cons_succ, List.length_cons, List.length_nil, List.all_cons, List.all_nil, isCell_int, isCell_bool, isCell_ptr, isCell_slice, isCell_func, Bool.and_true, Bool.and_self, and_self, if_true, List.size_toArray, and_true, true_and, Nat.reduceLeDiff, Nat.le_refl, Bool.not_true, Bool.not_false, Bool.true_and, Bool.false_and, Bool.and_false, Int.reduceBNe, Int.reduceBEq, Int.reduceLT, Int.reduceLE, decide_true, decide_false, hv.len]
  have done : ∀ (v5 v6 : Value) (last' : Int) (sl' : List (Pkt × Bool)) (H' : Heap), SumSt H H' b v5 v6 last' (i + 1) sl' → i + 1 ≤ l.length → i + 1 ≤ 120 →
      sounderlaw06_SentSums_s124 v (ptr b) v5 v6 (iv last') (iv i) (fun z0 z3 z5 z6 z7 z8 H' => z0 = v ∧ z3 = ptr b ∧ (∃ (i : Nat) (last : Int) (sl : List (Pkt × Bool)), z7 = iv last ∧ z8 = iv i ∧ i ≤ l.length ∧ i ≤ 120 ∧ SumSt H H' b z5 z6 last i sl) ∧
        (match z8 with | Value.int _ i => (120 - i).toNat | _ => 0) < (match iv i with | Value.int _ i => (120 - i).toNat | _ => 0)) R H' := by
    intro v5 v6 last' sl' H' hst h1 h2
    refine Sums_inner (by omega) hst fun H'' hst' => ?_
    exact ⟨rfl, rfl, ⟨i + 1, last', sl', rfl, rfl, h1, h2, hst'⟩, by simp only [iv]; omega⟩
  refine brV_d (fun hlt => ?_) (fun hlt => ?_)
  · refine brV_d (fun hlt2 => ?_) (fun hlt2 => ?_)
    · have hi : i < l.length := by omega
      have hrow := hin _ (List.getElem_mem hi)
      obtain ⟨ab, ao, ac, hx, hc, hcell, hlr⟩ := (hv.ext hs.only).ix (by decide) hi (j := i) rfl
      have hx' : ixSV 4 v (iv i) = some (.pointer (some ⟨ab, ao, none⟩)) := hx
      have hlr' : ldE true 4 (.pointer (some ⟨ab, ao, none⟩)) H2 = some (.agg (rowC l[i])) := hlr
      generalize l[i] = x at hrow hlr'
      obtain ⟨H3, hst, hs3⟩ := newA_sep (t := 41) (n := 4) (z := #[(.int .i64 0), (.int .i64 0), (.int .i64 0), (.int .i64 0)]) (c := rowC x) hs rfl rfl (by simp [rowC, isCell])
      simp only [bnd_some, brV_t, brV_f, newE_u, pickE_t, pickE_f, nilV_p, faV_p, cells_int, cells_bool, cells_ptr, cells_slice, cells_func, cells_agg, bin_eql, bin_neq, bin_lss, bin_leq, bin_gtr, bin_geq, bin_eqlb, bin_neqb, bin_eqlp, bin_eqlp0, bin_neqp, bin_neqp0, bin_eqls, bin_eqls0, un_not, un_neg, len_s, ex_t, cv_i, callV_f, Option.bind_some, Option.map_some, Nat.zero_add, Nat.add_zero, Nat.reduceAdd, Nat.reduceMul, size_newB, size_setB, blk_newB_self, own_newB_self, setB_setB, List.getElem?_toArray, List.getElem?_cons_zero, List.getElem?_cons_succ, List.length_cons, List.length_nil, List.all_cons, List.all_nil, isCell_int, isCell_bool, isCell_ptr, isCell_slice, isCell_func, Bool.and_true, Bool.and_self, and_self, if_true, List.size_toArray, and_true, true_and, Nat.reduceLeDiff, Nat.le_refl, Bool.not_true, Bool.not_false, Bool.true_and, Bool.false_and, Bool.and_false, Int.reduceBNe, Int.reduceBEq, Int.reduceLT, Int.reduceLE, decide_true, decide_false, hx', hlr', hst]
      have r0 : ldE false 1 (.pointer (some ⟨H2.size, 0, none⟩)) H3 = some (iv x.kind) := ld_ptr (own_blk hs3.cells) rfl
      have r1 : ldE false 1 (.pointer (some ⟨H2.size, 1, none⟩)) H3 = some (iv x.n) := ld_ptr (own_blk hs3.cells) rfl
      simp only [r0, bnd_some]
      refine Bring_ev hrow.1 (by omega) ?_
      simp only [bin_lss, bnd_some]
      refine brV_d (fun _ => ?_) (fun _ => ?_)
      · -- a packet is put
        have w2 : binV .int .add (iv last) (.int .i64 1) = some (iv (last + 1)) := bin_addw (by omega)
        simp only [bnd_some, brV_t, brV_f, newE_u, pickE_t, pickE_f, nilV_p, faV_p, cells_int, cells_bool, cells_ptr, cells_slice, cells_func, cells_agg, bin_eql, bin_neq, bin_lss, bin_leq, bin_gtr, bin_geq, bin_eqlb, bin_neqb, bin_eqlp, bin_eqlp0, bin_neqp, bin_neqp0, bin_eqls, bin_eqls0, un_not, un_neg, len_s, ex_t, cv_i, callV_f, Option.bind_some, Option.map_some, Nat.zero_add, Nat.add_zero, Nat.reduceAdd, Nat.reduceMul, size_newB, size_setB, blk_newB_self, own_newB_self, setB_setB, List.getElem?_toArray, List.getElem?_cons_zero, List.getElem?_cons_succ, List.length_cons, List.length_nil, List.all_cons, List.all_nil, isCell_int, isCell_bool, isCell_ptr, isCell_slice, isCell_func, Bool.and_true, Bool.and_self, and_self, if_true, List.size_toArray, and_true, true_and, Nat.reduceLeDiff, Nat.le_refl, Bool.not_true, Bool.not_false, Bool.true_and, Bool.false_and, Bool.and_false, Int.reduceBNe, Int.reduceBEq, Int.reduceLT, Int.reduceLE, decide_true, decide_false, w2, r1]
        refine Bring_ev hrow.2.1 (by omega) ?_
        have hb := bring_r (i := x.n) (n := 5) (by omega)
        generalize bring x.n 5 = k at hb
        have w3 : binV .int .add (iv (last + 1)) (iv k) = some (iv (last + 1 + k)) := bin_addw (by omega)
        simp only [w3, bnd_some]
        refine Sums_pkt (x := x) (last := last + 1 + k) (i := i) hs3 hrow fun H4 x10 hs4 => ?_
        have hbs := bring_r (i := x.size) (n := 65535) (by omega)
        have hmp : May (rowP x (last + 1 + k) i) := by unfold May rowP; simp only; omega
        have hpn : (rowP x (last + 1 + k) i).num = last + 1 + k := rfl
        generalize rowP x (last + 1 + k) i = p at hs4 hmp hpn
        simp only [ldP_sep hs4, bnd_some]
        refine Put_sep hs4.b2 fun H5 hs5 => ?_
        have hput : putE 256 last (live sl) p = 0 := by
          have h2 : ¬ p.num ≤ last := by omega
          have h3 : (live sl).length ≠ 256 := by omega
          simp [putE, hmp, h2, h3]
        simp only [hput, if_true, hpn] at hs5 ⊢
        replace hs5 := hs5.b1
        simp only [bnd_some, brV_t, brV_f, newE_u, pickE_t, pickE_f, nilV_p, faV_p, cells_int, cells_bool, cells_ptr, cells_slice, cells_func, cells_agg, bin_eql, bin_neq, bin_lss, bin_leq, bin_gtr, bin_geq, bin_eqlb, bin_neqb, bin_eqlp, bin_eqlp0, bin_neqp, bin_neqp0, bin_eqls, bin_eqls0, un_not, un_neg, len_s, ex_t, cv_i, callV_f, Option.bind_some, Option.map_some, Nat.zero_add, Nat.add_zero, Nat.reduceAdd, Nat.reduceMul, size_newB, size_setB, blk_newB_self, own_newB_self, setB_setB, List.getElem?_toArray, List.getElem?_cons_zero, List.getElem?_cons_succ, List.length_cons, List.length_nil, List.all_cons, List.all_nil, isCell_int, isCell_bool, isCell_ptr, isCell_slice, isCell_func, Bool.and_true, Bool.and_self, and_self, if_true, List.size_toArray, and_true, true_and, Nat.reduceLeDiff, Nat.le_refl, Bool.not_true, Bool.not_false, Bool.true_and, Bool.false_and, Bool.and_false, Int.reduceBNe, Int.reduceBEq, Int.reduceLT, Int.reduceLE, decide_true, decide_false, ldP_sep hs5]
        refine bslE_1 (E := pktE) (a := p) rfl (fun H6 _ he6 ho6 => ?_) (by decide)
        replace hs5 := (hs5.drop.b1.drop.ext he6).b1
        refine appE_sep (E := pktE) hs5 ho6.show (by simp only [hpl, List.length_cons, List.length_nil]; omega) (by decide) (by simp only [hpl, List.length_cons, List.length_nil]; omega) fun H7 v74 hs7 => ?_
        refine bslE_1 (E := boolE) (a := true) rfl (fun H8 _ he8 ho8 => ?_) (by decide)
        replace hs7 := (hs7.ext he8).b2
        refine appE_sep (E := boolE) hs7 ho8.show (by simp only [htl, List.length_cons, List.length_nil]; omega) (by decide) (by simp only [htl, List.length_cons, List.length_nil]; omega) fun H9 v77 hs9 => ?_
        refine done v74 v77 (last + 1 + k) (sl ++ [(p, true)]) H9 ⟨?_, up_push h.up h.may (by omega), ?_, by simp; omega, by omega, by omega⟩ (by omega) (by omega)
        · have e1 : live (sl ++ [(p, true)]) = live sl ++ [p] := by rw [live_app]; rfl
          have e2 : puts (sl ++ [(p, true)]) = puts sl ++ [p] := by simp [puts]
          have e3 : theres (sl ++ [(p, true)]) = theres sl ++ [true] := by simp [theres]
          rw [e1, e2, e3]; exact hs9.b1.b2
        · intro s hsm
          rcases List.mem_append.1 hsm with h1 | h1
          · have := h.may s h1; exact ⟨this.1, by omega⟩
          · simp only [List.mem_cons, List.not_mem_nil, or_false] at h1; subst h1; exact ⟨hmp, by simp only; omega⟩
      · -- one is dropped
        simp only [bnd_some, brV_t, brV_f, newE_u, pickE_t, pickE_f, nilV_p, faV_p, cells_int, cells_bool, cells_ptr, cells_slice, cells_func, cells_agg, bin_eql, bin_neq, bin_lss, bin_leq, bin_gtr, bin_geq, bin_eqlb, bin_neqb, bin_eqlp, bin_eqlp0, bin_neqp, bin_neqp0, bin_eqls, bin_eqls0, un_not, un_neg, len_s, ex_t, cv_i, callV_f, Option.bind_some, Option.map_some, Nat.zero_add, Nat.add_zero, Nat.reduceAdd, Nat.reduceMul, size_newB, size_setB, blk_newB_self, own_newB_self, setB_setB, List.getElem?_toArray, List.getElem?_cons_zero, List.getElem?_cons_succ, List.length_cons, List.length_nil, List.all_cons, List.all_nil, isCell_int, isCell_bool, isCell_ptr, isCell_slice, isCell_func, Bool.and_true, Bool.and_self, and_self, if_true, List.size_toArray, and_true, true_and, Nat.reduceLeDiff, Nat.le_refl, Bool.not_true, Bool.not_false, Bool.true_and, Bool.false_and, Bool.and_false, Int.reduceBNe, Int.reduceBEq, Int.reduceLT, Int.reduceLE, decide_true, decide_false, lst_len hs3.b2, hpl]
        refine brV_d (fun hne => ?_) (fun hne => ?_)
        · have hpos : 0 < sl.length := by omega
          simp only [bnd_some, brV_t, brV_f, newE_u, pickE_t, pickE_f, nilV_p, faV_p, cells_int, cells_bool, cells_ptr, cells_slice, cells_func, cells_agg, bin_eql, bin_neq, bin_lss, bin_leq, bin_gtr, bin_geq, bin_eqlb, bin_neqb, bin_eqlp, bin_eqlp0, bin_neqp, bin_neqp0, bin_eqls, bin_eqls0, un_not, un_neg, len_s, ex_t, cv_i, callV_f, Option.bind_some, Option.map_some, Nat.zero_add, Nat.add_zero, Nat.reduceAdd, Nat.reduceMul, size_newB, size_setB, blk_newB_self, own_newB_self, setB_setB, List.getElem?_toArray, List.getElem?_cons_zero, List.getElem?_cons_succ, List.length_cons, List.length_nil, List.all_cons, List.all_nil, isCell_int, isCell_bool, isCell_ptr, isCell_slice, isCell_func, Bool.and_true, Bool.and_self, and_self, if_true, List.size_toArray, and_true, true_and, Nat.reduceLeDiff, Nat.le_refl, Bool.not_true, Bool.not_false, Bool.true_and, Bool.false_and, Bool.and_false, Int.reduceBNe, Int.reduceBEq, Int.reduceLT, Int.reduceLE, decide_true, decide_false, r1, lst_len hs3.b2, hpl]
          refine Bring_ev hrow.2.1 (by omega) ?_
          have hb := bring_r (i := x.n) (n := sl.length) (by omega)
          generalize bring x.n sl.length = z at hb
          obtain ⟨k, rfl⟩ : ∃ k : Nat, z = k := ⟨z.toNat, by omega⟩
          have hkl : k < sl.length := by omega
          replace hs3 := hs3.drop
          obtain ⟨pb, po, hpx, _, hcx⟩ := lst_get hs3.b1 (by decide) (by rw [hpl]; exact hkl) (j := k) rfl
          have hpk : (puts sl)[k]'(by rw [hpl]; exact hkl) = sl[k].1 := by simp [puts]
          have htk : (theres sl)[k]'(by rw [htl]; exact hkl) = sl[k].2 := by simp [theres]
          rw [hpk] at hcx
          have hpx' : ixSV 6 w5 (iv k) = some (.pointer (some ⟨pb, po, none⟩)) := hpx
          have hl0 : ldE false 1 (.pointer (some ⟨pb, po, none⟩)) H3 = some (iv sl[k].1.num) := hcx 0 _ (by decide) rfl
          simp only [bnd_some, brV_t, brV_f, newE_u, pickE_t, pickE_f, nilV_p, faV_p, cells_int, cells_bool, cells_ptr, cells_slice, cells_func, cells_agg, bin_eql, bin_neq, bin_lss, bin_leq, bin_gtr, bin_geq, bin_eqlb, bin_neqb, bin_eqlp, bin_eqlp0, bin_neqp, bin_neqp0, bin_eqls, bin_eqls0, un_not, un_neg, len_s, ex_t, cv_i, callV_f, Option.bind_some, Option.map_some, Nat.zero_add, Nat.add_zero, Nat.reduceAdd, Nat.reduceMul, size_newB, size_setB, blk_newB_self, own_newB_self, setB_setB, List.getElem?_toArray, List.getElem?_cons_zero, List.getElem?_cons_succ, List.length_cons, List.length_nil, List.all_cons, List.all_nil, isCell_int, isCell_bool, isCell_ptr, isCell_slice, isCell_func, Bool.and_true, Bool.and_self, and_self, if_true, List.size_toArray, and_true, true_and, Nat.reduceLeDiff, Nat.le_refl, Bool.not_true, Bool.not_false, Bool.true_and, Bool.false_and, Bool.and_false, Int.reduceBNe, Int.reduceBEq, Int.reduceLT, Int.reduceLE, decide_true, decide_false, hpx', hl0]
          refine Drop_sep hs3 fun H4 hs4 => ?_
          rw [find_live h.up hkl]
          have hop : opt (if sl[k].2 = true then some sl[k].1 else none) = .tuple #[pv (if sl[k].2 then sl[k].1 else pkt0), .bool sl[k].2] := by
            cases sl[k].2 <;> rfl
          rw [hop]
          simp only [bnd_some, brV_t, brV_f, newE_u, pickE_t, pickE_f, nilV_p, faV_p, cells_int, cells_bool, cells_ptr, cells_slice, cells_func, cells_agg, bin_eql, bin_neq, bin_lss, bin_leq, bin_gtr, bin_geq, bin_eqlb, bin_neqb, bin_eqlp, bin_eqlp0, bin_neqp, bin_neqp0, bin_eqls, bin_eqls0, un_not, un_neg, len_s, ex_t, cv_i, callV_f, Option.bind_some, Option.map_some, Nat.zero_add, Nat.add_zero, Nat.reduceAdd, Nat.reduceMul, size_newB, size_setB, blk_newB_self, own_newB_self, setB_setB, List.getElem?_toArray, List.getElem?_cons_zero, List.getElem?_cons_succ, List.length_cons, List.length_nil, List.all_cons, List.all_nil, isCell_int, isCell_bool, isCell_ptr, isCell_slice, isCell_func, Bool.and_true, Bool.and_self, and_self, if_true, List.size_toArray, and_true, true_and, Nat.reduceLeDiff, Nat.le_refl, Bool.not_true, Bool.not_false, Bool.true_and, Bool.false_and, Bool.and_false, Int.reduceBNe, Int.reduceBEq, Int.reduceLT, Int.reduceLE, decide_true, decide_false, pkt0_C]
          obtain ⟨H5, hst5, hs5⟩ := newP_sep (p := pkt0) (q := if sl[k].2 then sl[k].1 else pkt0) (t := 30) hs4
          obtain ⟨tb, to, hy, hly, hcy⟩ := lst_get hs5.b3 (by decide) (by rw [htl]; exact hkl) (j := k) rfl
          rw [htk] at hcy
          have hy' : ixSV 1 w6 (iv k) = some (.pointer (some ⟨tb, to, none⟩)) := hy
          have hl1 : ldE false 1 (.pointer (some ⟨tb, to, none⟩)) H5 = some (.bool sl[k].2) := hcy 0 _ (by decide) rfl
          obtain ⟨pb2, po2, hx2, hlx2, _⟩ := lst_get hs5.b2 (by decide) (by rw [hpl]; exact hkl) (j := k) rfl
          rw [hpk] at hlx2
          have eqa := hpx.symm.trans hx2
          simp only [Option.some.injEq, Value.pointer.injEq, Addr.mk.injEq, and_true] at eqa
          obtain ⟨rfl, rfl⟩ := eqa
          have hlx2' : ldE true 6 (.pointer (some ⟨pb, po, none⟩)) H5 = some (pv sl[k].1) := hlx2
          have hp := ldP_sep hs5
          have hp' : ldE true 6 (.pointer (some ⟨H4.size, 0, none⟩)) H5 = some (pv (if sl[k].2 then sl[k].1 else pkt0)) := hp
          -- the flag is written
          obtain ⟨q, H6, hq1, hq2, hs6⟩ := lst_set (u := .bool false) (a := false) (E := boolE) (k := k) (j := k) hs5.b3 (by rw [htl]; exact hkl) rfl rfl
          have eqb := hy.symm.trans hq1
          simp only [Option.some.injEq, Value.pointer.injEq] at eqb
          subst eqb
          have hq2' : stE 1 (.pointer (some ⟨tb, to, none⟩)) (.bool false) H5 = some H6 := hq2
          have fin : sounderlaw06_SentSums_s124 v (ptr b) w5 w6 (iv last) (iv i) (fun z0 z3 z5 z6 z7 z8 H' => z0 = v ∧ z3 = ptr b ∧ (∃ (i : Nat) (last : Int) (sl : List (Pkt × Bool)), z7 = iv last ∧ z8 = iv i ∧ i ≤ l.length ∧ i ≤ 120 ∧ SumSt H H' b z5 z6 last i sl) ∧
              (match z8 with | Value.int _ i => (120 - i).toNat | _ => 0) < (match iv i with | Value.int _ i => (120 - i).toNat | _ => 0)) R H6 := by
            refine done w5 w6 last (sl.set k (sl[k].1, false)) H6 ⟨?_, up_set h.up hkl, ?_, by rw [List.length_set]; omega, hlo, by omega⟩ (by omega) (by omega)
            · rw [live_set h.up hkl rfl, puts_set hkl, theres_set hkl]
              exact hs6.b1.drop.b2.b2
            · intro s hsm
              rcases List.mem_or_eq_of_mem_set hsm with h1 | h1
              · exact h.may s h1
              · subst h1; have h2 := h.may _ (List.getElem_mem hkl); exact h2
          simp only [hst5, bnd_some, hy', hl1, bin_neqbb, brV_f]
          cases ht : sl[k].2
          · simp only [brV_f, hy', bnd_some, hq2']
            exact fin
          · rw [ht] at hp'
            simp only [if_true] at hp'
            have e1 : (!decide (sl[k].1 = sl[k].1)) = false := by simp
            simp only [brV_t, brV_f, hp', bnd_some, hpx', hlx2', bin_neP, e1, hy', hq2']
            exact fin
        · exact done w5 w6 last sl H3 ⟨hs3.drop, h.up, h.may, by omega, hlo, by omega⟩ (by omega) (by omega)
    · exact hR _ hs.only
  · exact hR _ hs.only
end Go.Hc

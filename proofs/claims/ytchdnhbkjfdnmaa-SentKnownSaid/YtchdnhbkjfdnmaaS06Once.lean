/- SentOnce. -/
import Derived.Test.YtchdnhbkjfdnmaaS06H
import Derived.Test.YtchdnhbkjfdnmaaHcO
set_option linter.unusedSimpArgs false
set_option linter.unusedVariables false
namespace Go.Hc
open Go

theorem may_one {n : Int} (h : 0 ≤ n ∧ n ≤ 100000) : May (oneP n) := by unfold May oneP; simp only; omega

theorem Once_ev {H : Heap} {v : Value} {l : List Int} {R : Value → Heap → Prop} (hv : ShowA intE H v l) (hin : ∀ x ∈ l, In64 x) (hR : ∀ H', Ext [] H H' → R (.bool true) H') :
    EvF P N.sounderlaw06_SentOnce #[v] H R := by
  refine sounderlaw06_SentOnce_ev _ _ _ ?_
  simp only [sounderlaw06_SentOnce_g55, sounderlaw06_SentOnce_g56, sounderlaw06_SentOnce_g57, sounderlaw06_SentOnce_g58, sounderlaw06_SentOnce_g59, sounderlaw06_SentOnce_g60, sounderlaw06_SentOnce_g62, sounderlaw06_SentOnce_g63, sounderlaw06_SentOnce_g64, sounderlaw06_SentOnce_g65, sounderlaw06_SentOnce_g66, sounderlaw06_SentOnce_g67, sounderlaw06_SentOnce_g70, sounderlaw06_SentOnce_g71, sounderlaw06_SentOnce_g72, sounderlaw06_SentOnce_g79, sounderlaw06_SentOnce_g80, sounderlaw06_SentOnce_g81, sounderlaw06_SentOnce_g82, sounderlaw06_SentOnce_g83, sounderlaw06_SentOnce_l84, sounderlaw06_SentOnce, sounderlaw06_SentOnce_s61]
  refine New_sep (Sep.nil H) (fun h => absurd ⟨by decide, by decide⟩ h) fun room b H1 hr _ _ h => ?_
  obtain rfl : room = 256 := by omega
  simp only [bnd_some, brV_t, brV_f, newE_u, pickE_t, pickE_f, nilV_p, faV_p, cells_int, cells_bool, cells_ptr, cells_slice, cells_func, cells_agg, bin_eql, bin_neq, bin_lss, bin_leq, bin_gtr, bin_geq, bin_eqlb, bin_neqb, bin_eqlp, bin_eqlp0, bin_neqp, bin_neqp0, bin_eqls, bin_eqls0, un_not, un_neg, len_s, ex_t, cv_i, callV_f, Option.bind_some, Option.map_some, Nat.zero_add, Nat.add_zero, Nat.reduceAdd, Nat.reduceMul, size_newB, size_setB, blk_newB_self, own_newB_self, setB_setB, List.getElem?_toArray, List.getElem?_cons_zero, List.getElem?_cons_succ, List.length_cons, List.length_nil, List.all_cons, List.all_nil, isCell_int, isCell_bool, isCell_ptr, isCell_slice, isCell_func, Bool.and_true, Bool.and_self, and_self, if_true, List.size_toArray, and_true, true_and, Nat.reduceLeDiff, Nat.le_refl, Bool.not_true, Bool.not_false, Bool.true_and, Bool.false_and, Bool.and_false, Int.reduceBNe, Int.reduceBEq, Int.reduceLT, Int.reduceLE, decide_true, decide_false]
  refine ⟨fun w5 w6 H' => ∃ (i : Nat) (last : Int) (L : List Pkt), w5 = iv last ∧ w6 = iv i ∧ i ≤ l.length ∧ i ≤ 60 ∧ L.length ≤ i ∧ -1 ≤ last ∧ last < 40 ∧ Sep H H' [logA b 256 last L],
    fun _ w _ => (match w with | Value.int _ i => (60 - i).toNat | _ => 0), ⟨0, -1, [], rfl, rfl, by omega, by omega, by simp, by omega, by omega, h⟩, ?_⟩
  clear h
  rintro w5 w6 H2 ⟨i, last, L, rfl, rfl, hil, hi60, hL, hl0, hl1, h⟩
  have hsm := hv.small
  have w1 : binV .int .add (iv i) (.int .i64 1) = some (iv ((i + 1 : Nat) : Int)) := by rw [bin_addw (by omega)]; rfl
  simp only [bnd_some, brV_t, brV_f, newE_u, pickE_t, pickE_f, nilV_p, faV_p, cells_int, cells_bool, cells_ptr, cells_slice, cells_func, cells_agg, bin_eql, bin_neq, bin_lss, bin_leq, bin_gtr, bin_geq, bin_eqlb, bin_neqb, bin_eqlp, bin_eqlp0, bin_neqp, bin_neqp0, bin_eqls, bin_eqls0, un_not, un_neg, len_s, ex_t, cv_i, callV_f, Option.bind_some, Option.map_some, Nat.zero_add, Nat.add_zero, Nat.reduceAdd, Nat.reduceMul, size_newB, size_setB, blk_newB_self, own_newB_self, setB_setB, List.getElem?_toArray, List.getElem?_cons_zero, List.getElem?_cons_succ, List.length_cons, List.length_nil, List.all_cons, List.all_nil, isCell_int, isCell_bool, isCell_ptr, isCell_slice, isCell_func, Bool.and_true, Bool.and_self, and_self, if_true, List.size_toArray, and_true, true_and, Nat.reduceLeDiff, Nat.le_refl, Bool.not_true, Bool.not_false, Bool.true_and, Bool.false_and, Bool.and_false, Int.reduceBNe, Int.reduceBEq, Int.reduceLT, Int.reduceLE, decide_true, decide_false, hv.len]
  have fin : EvF P N.sounderlaw06_works #[] H2 fun v66 H => R v66 H := works_ev fun H' he => hR H' (h.only.trans he)
  refine brV_d (fun hlt => ?_) (fun hlt => ?_)
  · refine brV_d (fun hlt2 => ?_) (fun hlt2 => ?_)
    · have hi : i < l.length := by omega
      obtain ⟨ab, ao, ac, hx, hc, hcell, _⟩ := (hv.ext h.only).ix (by decide) hi (j := i) rfl
      have hx' : ixSV 1 v (iv i) = some (.pointer (some ⟨ab, ao, none⟩)) := hx
      have hl : ldE false 1 (.pointer (some ⟨ab, ao, none⟩)) H2 = some (iv l[i]) := ld_ptr hc (by have := hcell 0 (by decide); exact this)
      simp only [bnd_some, brV_t, brV_f, newE_u, pickE_t, pickE_f, nilV_p, faV_p, cells_int, cells_bool, cells_ptr, cells_slice, cells_func, cells_agg, bin_eql, bin_neq, bin_lss, bin_leq, bin_gtr, bin_geq, bin_eqlb, bin_neqb, bin_eqlp, bin_eqlp0, bin_neqp, bin_neqp0, bin_eqls, bin_eqls0, un_not, un_neg, len_s, ex_t, cv_i, callV_f, Option.bind_some, Option.map_some, Nat.zero_add, Nat.add_zero, Nat.reduceAdd, Nat.reduceMul, size_newB, size_setB, blk_newB_self, own_newB_self, setB_setB, List.getElem?_toArray, List.getElem?_cons_zero, List.getElem?_cons_succ, List.length_cons, List.length_nil, List.all_cons, List.all_nil, isCell_int, isCell_bool, isCell_ptr, isCell_slice, isCell_func, Bool.and_true, Bool.and_self, and_self, if_true, List.size_toArray, and_true, true_and, Nat.reduceLeDiff, Nat.le_refl, Bool.not_true, Bool.not_false, Bool.true_and, Bool.false_and, Bool.and_false, Int.reduceBNe, Int.reduceBEq, Int.reduceLT, Int.reduceLE, decide_true, decide_false, hx', hl]
      refine Bring_ev (hin _ (List.getElem_mem hi)) (by omega) ?_
      have hb := bring_r (i := l[i]) (n := 40) (by omega)
      generalize bring l[i] 40 = n at hb
      refine one_sep h fun H3 h => ?_
      refine Put_sep h fun H4 h => ?_
      have hmay : May (oneP n) := may_one (by omega)
      have hnum : (oneP n).num = n := rfl
      -- the rest
      have rest : ∀ (last' : Int) (L' : List Pkt) (H5 : Heap), L'.length ≤ i + 1 → -1 ≤ last' → last' < 40 → Sep H H5 [logA b 256 last' L'] →
          sounderlaw06_SentOnce_s69 v (ptr b) (iv last') (iv i) (fun z0 z3 z5 z6 H' => z0 = v ∧ z3 = ptr b ∧ (∃ (i : Nat) (last : Int) (L : List Pkt), z5 = iv last ∧ z6 = iv i ∧ i ≤ l.length ∧ i ≤ 60 ∧ L.length ≤ i ∧ -1 ≤ last ∧ last < 40 ∧ Sep H H' [logA b 256 last L]) ∧
            (match z6 with | Value.int _ i => (60 - i).toNat | _ => 0) < (match iv i with | Value.int _ i => (60 - i).toNat | _ => 0)) R H5 := by
        intro last' L' H5 hL' h0 h1 h
        simp only [sounderlaw06_SentOnce_s69, sounderlaw06_SentOnce_g55, sounderlaw06_SentOnce_g56, sounderlaw06_SentOnce_g57, sounderlaw06_SentOnce_g58, sounderlaw06_SentOnce_g59, sounderlaw06_SentOnce_g60, sounderlaw06_SentOnce_g62, sounderlaw06_SentOnce_g63, sounderlaw06_SentOnce_g64, sounderlaw06_SentOnce_g65, sounderlaw06_SentOnce_g66, sounderlaw06_SentOnce_g67, sounderlaw06_SentOnce_g70, sounderlaw06_SentOnce_g71, sounderlaw06_SentOnce_g72, sounderlaw06_SentOnce_g79, sounderlaw06_SentOnce_g80, sounderlaw06_SentOnce_g81, sounderlaw06_SentOnce_g82, sounderlaw06_SentOnce_g83, sounderlaw06_SentOnce_l84, sounderlaw06_SentOnce]
        refine Last_sep h ?_
        have : (last' != last') = false := by simp
        simp only [bnd_some, brV_t, brV_f, newE_u, pickE_t, pickE_f, nilV_p, faV_p, cells_int, cells_bool, cells_ptr, cells_slice, cells_func, cells_agg, bin_eql, bin_neq, bin_lss, bin_leq, bin_gtr, bin_geq, bin_eqlb, bin_neqb, bin_eqlp, bin_eqlp0, bin_neqp, bin_neqp0, bin_eqls, bin_eqls0, un_not, un_neg, len_s, ex_t, cv_i, callV_f, Option.bind_some, Option.map_some, Nat.zero_add, Nat.add_zero, Nat.reduceAdd, Nat.reduceMul, size_newB, size_setB, blk_newB_self, own_newB_self, setB_setB, List.getElem?_toArray, List.getElem?_cons_zero, List.getElem?_cons_succ, List.length_cons, List.length_nil, List.all_cons, List.all_nil, isCell_int, isCell_bool, isCell_ptr, isCell_slice, isCell_func, Bool.and_true, Bool.and_self, and_self, if_true, List.size_toArray, and_true, true_and, Nat.reduceLeDiff, Nat.le_refl, Bool.not_true, Bool.not_false, Bool.true_and, Bool.false_and, Bool.and_false, Int.reduceBNe, Int.reduceBEq, Int.reduceLT, Int.reduceLE, decide_true, decide_false, this, w1]
        exact ⟨⟨i + 1, last', L', rfl, rfl, by omega, by omega, hL', h0, h1, h⟩, by omega⟩
      have rest2 : ∀ (last' : Int) (L' : List Pkt) (H5 : Heap), L'.length ≤ i + 1 → -1 ≤ last' → last' < 40 → Sep H H5 [logA b 256 last' L'] →
          sounderlaw06_SentOnce_s68 v (ptr b) (iv last') (iv i) (fun z0 z3 z5 z6 H' => z0 = v ∧ z3 = ptr b ∧ (∃ (i : Nat) (last : Int) (L : List Pkt), z5 = iv last ∧ z6 = iv i ∧ i ≤ l.length ∧ i ≤ 60 ∧ L.length ≤ i ∧ -1 ≤ last ∧ last < 40 ∧ Sep H H' [logA b 256 last L]) ∧
            (match z6 with | Value.int _ i => (60 - i).toNat | _ => 0) < (match iv i with | Value.int _ i => (60 - i).toNat | _ => 0)) R H5 := by
        intro last' L' H5 hL' h0 h1 h
        simp only [sounderlaw06_SentOnce_s68, sounderlaw06_SentOnce_g55, sounderlaw06_SentOnce_g56, sounderlaw06_SentOnce_g57, sounderlaw06_SentOnce_g58, sounderlaw06_SentOnce_g59, sounderlaw06_SentOnce_g60, sounderlaw06_SentOnce_g62, sounderlaw06_SentOnce_g63, sounderlaw06_SentOnce_g64, sounderlaw06_SentOnce_g65, sounderlaw06_SentOnce_g66, sounderlaw06_SentOnce_g67, sounderlaw06_SentOnce_g70, sounderlaw06_SentOnce_g71, sounderlaw06_SentOnce_g72, sounderlaw06_SentOnce_g79, sounderlaw06_SentOnce_g80, sounderlaw06_SentOnce_g81, sounderlaw06_SentOnce_g82, sounderlaw06_SentOnce_g83, sounderlaw06_SentOnce_l84, sounderlaw06_SentOnce]
        simp only [bnd_some, brV_t, brV_f, newE_u, pickE_t, pickE_f, nilV_p, faV_p, cells_int, cells_bool, cells_ptr, cells_slice, cells_func, cells_agg, bin_eql, bin_neq, bin_lss, bin_leq, bin_gtr, bin_geq, bin_eqlb, bin_neqb, bin_eqlp, bin_eqlp0, bin_neqp, bin_neqp0, bin_eqls, bin_eqls0, un_not, un_neg, len_s, ex_t, cv_i, callV_f, Option.bind_some, Option.map_some, Nat.zero_add, Nat.add_zero, Nat.reduceAdd, Nat.reduceMul, size_newB, size_setB, blk_newB_self, own_newB_self, setB_setB, List.getElem?_toArray, List.getElem?_cons_zero, List.getElem?_cons_succ, List.length_cons, List.length_nil, List.all_cons, List.all_nil, isCell_int, isCell_bool, isCell_ptr, isCell_slice, isCell_func, Bool.and_true, Bool.and_self, and_self, if_true, List.size_toArray, and_true, true_and, Nat.reduceLeDiff, Nat.le_refl, Bool.not_true, Bool.not_false, Bool.true_and, Bool.false_and, Bool.and_false, Int.reduceBNe, Int.reduceBEq, Int.reduceLT, Int.reduceLE, decide_true, decide_false, bin_rem (show (11 : Int) ≠ 0 by decide)]
        refine brV_i (fun _ => ?_) (fun _ => ?_)
        · refine Clear_sep h fun H6 h => ?_
          exact rest last' [] H6 (by simp) h0 h1 h
        · exact rest last' L' H5 hL' h0 h1 h
      by_cases hn : n ≤ last
      · have hp : putE 256 last L (oneP n) = 60 := by simp [putE, hmay, hnum, hn]
        have hd : decide (last < n) = false := by simp; omega
        have hmx : foldV max2V (iv last) [iv n] = some (iv last) := by simp only [foldV, max2V]; rw [if_neg (by omega)]
        simp only [hp, hnum] at h ⊢
        simp only [bnd_some, brV_t, brV_f, newE_u, pickE_t, pickE_f, nilV_p, faV_p, cells_int, cells_bool, cells_ptr, cells_slice, cells_func, cells_agg, bin_eql, bin_neq, bin_lss, bin_leq, bin_gtr, bin_geq, bin_eqlb, bin_neqb, bin_eqlp, bin_eqlp0, bin_neqp, bin_neqp0, bin_eqls, bin_eqls0, un_not, un_neg, len_s, ex_t, cv_i, callV_f, Option.bind_some, Option.map_some, Nat.zero_add, Nat.add_zero, Nat.reduceAdd, Nat.reduceMul, size_newB, size_setB, blk_newB_self, own_newB_self, setB_setB, List.getElem?_toArray, List.getElem?_cons_zero, List.getElem?_cons_succ, List.length_cons, List.length_nil, List.all_cons, List.all_nil, isCell_int, isCell_bool, isCell_ptr, isCell_slice, isCell_func, Bool.and_true, Bool.and_self, and_self, if_true, List.size_toArray, and_true, true_and, Nat.reduceLeDiff, Nat.le_refl, Bool.not_true, Bool.not_false, Bool.true_and, Bool.false_and, Bool.and_false, Int.reduceBNe, Int.reduceBEq, Int.reduceLT, Int.reduceLE, decide_true, decide_false, Int.reduceEq, if_false, hd, hmx, BEq.rfl, bin_rem (show (2 : Int) ≠ 0 by decide)] at h ⊢
        refine brV_i (fun _ => ?_) (fun _ => ?_)
        · refine Drop_sep h fun H5 h => ?_
          exact rest2 _ _ _ (Nat.le_trans (List.length_filter_le _ _) (by omega)) hl0 hl1 h
        · exact rest2 _ _ _ (by omega) hl0 hl1 h
      · have hp : putE 256 last L (oneP n) = 0 := by
          have : L.length ≠ 256 := by omega
          simp [putE, hmay, hnum, hn, this]
        have hd : decide (last < n) = true := by simp; omega
        have hmx : foldV max2V (iv last) [iv n] = some (iv n) := by simp only [foldV, max2V]; rw [if_pos (by omega)]
        simp only [hp, hnum] at h ⊢
        simp only [bnd_some, brV_t, brV_f, newE_u, pickE_t, pickE_f, nilV_p, faV_p, cells_int, cells_bool, cells_ptr, cells_slice, cells_func, cells_agg, bin_eql, bin_neq, bin_lss, bin_leq, bin_gtr, bin_geq, bin_eqlb, bin_neqb, bin_eqlp, bin_eqlp0, bin_neqp, bin_neqp0, bin_eqls, bin_eqls0, un_not, un_neg, len_s, ex_t, cv_i, callV_f, Option.bind_some, Option.map_some, Nat.zero_add, Nat.add_zero, Nat.reduceAdd, Nat.reduceMul, size_newB, size_setB, blk_newB_self, own_newB_self, setB_setB, List.getElem?_toArray, List.getElem?_cons_zero, List.getElem?_cons_succ, List.length_cons, List.length_nil, List.all_cons, List.all_nil, isCell_int, isCell_bool, isCell_ptr, isCell_slice, isCell_func, Bool.and_true, Bool.and_self, and_self, if_true, List.size_toArray, and_true, true_and, Nat.reduceLeDiff, Nat.le_refl, Bool.not_true, Bool.not_false, Bool.true_and, Bool.false_and, Bool.and_false, Int.reduceBNe, Int.reduceBEq, Int.reduceLT, Int.reduceLE, decide_true, decide_false, hd, hmx, BEq.rfl, bin_rem (show (2 : Int) ≠ 0 by decide)] at h ⊢
        refine brV_i (fun _ => ?_) (fun _ => ?_)
        · refine Drop_sep h fun H5 h => ?_
          exact rest2 _ _ _ (Nat.le_trans (List.length_filter_le _ _) (by simp; omega)) (by omega) (by omega) h
        · exact rest2 _ _ _ (by simp; omega) (by omega) (by omega) h
    · exact fin
  · exact fin
end Go.Hc

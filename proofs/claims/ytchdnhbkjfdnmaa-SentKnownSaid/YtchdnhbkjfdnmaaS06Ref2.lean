/- The reference's log: what is read, found, dropped. -/
import Derived.Test.YtchdnhbkjfdnmaaS06Ref
set_option linter.unusedSimpArgs false
set_option linter.unusedVariables false
namespace Go.Hc
open Go
section
variable {H0 H : Heap} {Qs : List Asr} {m : Nat} {room top : Int} {L : List Pkt} {R : Value → Heap → Prop} {v : Value}
theorem ShowL.pk (h : ShowL pktE H v L) {k : Nat} (hk : k < L.length) : ∃ b o, ixSV 6 v (iv k) = some (.pointer (some ⟨b, o, none⟩)) ∧ ldE true 6 (.pointer (some ⟨b, o, none⟩)) H = some (pv L[k]) ∧
    ldE false 1 (.pointer (some ⟨b, o, none⟩)) H = some (iv L[k].num) ∧ ldE false 1 (.pointer (some ⟨b, o + 2, none⟩)) H = some (iv L[k].size) ∧ ldE false 1 (.pointer (some ⟨b, o + 3, none⟩)) H = some (.bool L[k].el) ∧
    ldE false 1 (.pointer (some ⟨b, o + 4, none⟩)) H = some (.bool L[k].fl) := by
  obtain ⟨b, o, c, hx, hc, hcell, hl⟩ := h.ix (by decide) hk (j := k) rfl
  exact ⟨b, o, hx, hl, ld_ptr hc (hcell 0 (by decide)), ld_ptr hc (hcell 2 (by decide)), ld_ptr hc (hcell 3 (by decide)), ld_ptr hc (hcell 4 (by decide))⟩
theorem flight_takeL {k : Nat} (hk : k < L.length) : flight (L.take (k + 1)) = flight (L.take k) + (if L[k].fl then L[k].size else 0) ∧ elic (L.take (k + 1)) = elic (L.take k) + (if L[k].fl && L[k].el then 1 else 0) := by
  rw [List.take_succ_eq_append_getElem hk, flight_app, elic_app]
  simp only [flight, elic, Int.add_zero, and_self]
theorem RFlight_ev (l2 : ldE false 1 (.pointer (some ⟨m, 2, none⟩)) H = some v) (hs : ShowL pktE H v L) (hm : ∀ p ∈ L, May p) (hL : L.length ≤ 300) (hR : R (iv (flight L)) H) : EvF P N.sounderref06_Log_Flight #[ptr m] H R := by
  refine sounderref06_Log_Flight_ev _ _ _ ?_
  simp only [sounderref06_Log_Flight_g24, sounderref06_Log_Flight_g25, sounderref06_Log_Flight_g26, sounderref06_Log_Flight_g28, sounderref06_Log_Flight_g30, sounderref06_Log_Flight_s29, sounderref06_Log_Flight_g35, sounderref06_Log_Flight_g36, sounderref06_Log_Flight_g37, sounderref06_Log_Flight_s27, sounderref06_Log_Flight_l38, sounderref06_Log_Flight]
  refine ⟨fun w3 w4 H' => H' = H ∧ ∃ k : Nat, k ≤ L.length ∧ w3 = iv (flight (L.take k)) ∧ w4 = iv k, fun _ w _ => (match w with | Value.int _ i => (L.length - i).toNat | _ => 0), ⟨rfl, 0, by omega, rfl, rfl⟩, ?_⟩
  rintro w3 w4 H' ⟨rfl, k, hk, rfl, rfl⟩
  have w1 : binV .int .add (iv k) (.int .i64 1) = some (iv ((k + 1 : Nat) : Int)) := by rw [bin_addw (by omega)]; rfl
  simp only [bnd_some, brV_t, brV_f, newE_u, pickE_t, pickE_f, nilV_p, faV_p, cells_int, cells_bool, cells_ptr, cells_slice, cells_func, cells_agg, bin_eql, bin_neq, bin_lss, bin_leq, bin_gtr, bin_geq, bin_eqlb, bin_neqb, bin_eqlp, bin_eqlp0, bin_neqp, bin_neqp0, bin_eqls, bin_eqls0, un_not, un_neg, len_s, ex_t, cv_i, callV_f, Option.bind_some, Option.map_some, Nat.zero_add, Nat.add_zero, Nat.reduceAdd, Nat.reduceMul, size_newB, size_setB, blk_newB_self, own_newB_self, setB_setB, List.getElem?_toArray, List.getElem?_cons_zero, List.getElem?_cons_succ, List.length_cons, List.length_nil, List.all_cons, List.all_nil, isCell_int, isCell_bool, isCell_ptr, isCell_slice, isCell_func, Bool.and_true, Bool.and_self, and_self, if_true, List.size_toArray, and_true, true_and, Nat.reduceLeDiff, Nat.le_refl, Bool.not_true, Bool.not_false, Bool.true_and, Bool.false_and, Bool.and_false, Int.reduceBNe, Int.reduceBEq, Int.reduceLT, Int.reduceLE, decide_true, decide_false, l2, hs.len]
  refine brV_d (fun hlt => ?_) (fun hlt => ?_)
  · have hkl : k < L.length := by omega
    obtain ⟨pb, po, hx, hl, h0, hl2, h3, h4⟩ := hs.pk hkl
    have hmk := hm _ (List.getElem_mem hkl)
    have hfl := flight_le (L := L.take k) fun p hp => hm p (List.mem_of_mem_take hp)
    have hll : (L.take k).length ≤ 300 := by rw [List.length_take]; omega
    obtain ⟨f1, _⟩ := flight_takeL hkl
    have w2 : binV .int .add (iv (flight (L.take k))) (iv L[k].size) = some (iv (flight (L.take k) + L[k].size)) := bin_addw (by unfold May at hmk; omega)
    simp only [bnd_some, brV_t, brV_f, newE_u, pickE_t, pickE_f, nilV_p, faV_p, cells_int, cells_bool, cells_ptr, cells_slice, cells_func, cells_agg, bin_eql, bin_neq, bin_lss, bin_leq, bin_gtr, bin_geq, bin_eqlb, bin_neqb, bin_eqlp, bin_eqlp0, bin_neqp, bin_neqp0, bin_eqls, bin_eqls0, un_not, un_neg, len_s, ex_t, cv_i, callV_f, Option.bind_some, Option.map_some, Nat.zero_add, Nat.add_zero, Nat.reduceAdd, Nat.reduceMul, size_newB, size_setB, blk_newB_self, own_newB_self, setB_setB, List.getElem?_toArray, List.getElem?_cons_zero, List.getElem?_cons_succ, List.length_cons, List.length_nil, List.all_cons, List.all_nil, isCell_int, isCell_bool, isCell_ptr, isCell_slice, isCell_func, Bool.and_true, Bool.and_self, and_self, if_true, List.size_toArray, and_true, true_and, Nat.reduceLeDiff, Nat.le_refl, Bool.not_true, Bool.not_false, Bool.true_and, Bool.false_and, Bool.and_false, Int.reduceBNe, Int.reduceBEq, Int.reduceLT, Int.reduceLE, decide_true, decide_false, hx, h4]
    cases hf : L[k].fl
    · rw [hf] at f1
      simp only [Bool.false_eq_true, if_false, Int.add_zero] at f1
      simp only [brV_f, w1, bnd_some]
      exact ⟨⟨k + 1, by omega, by rw [f1], rfl⟩, by omega⟩
    · rw [hf] at f1
      simp only [if_true] at f1
      simp only [bnd_some, brV_t, brV_f, newE_u, pickE_t, pickE_f, nilV_p, faV_p, cells_int, cells_bool, cells_ptr, cells_slice, cells_func, cells_agg, bin_eql, bin_neq, bin_lss, bin_leq, bin_gtr, bin_geq, bin_eqlb, bin_neqb, bin_eqlp, bin_eqlp0, bin_neqp, bin_neqp0, bin_eqls, bin_eqls0, un_not, un_neg, len_s, ex_t, cv_i, callV_f, Option.bind_some, Option.map_some, Nat.zero_add, Nat.add_zero, Nat.reduceAdd, Nat.reduceMul, size_newB, size_setB, blk_newB_self, own_newB_self, setB_setB, List.getElem?_toArray, List.getElem?_cons_zero, List.getElem?_cons_succ, List.length_cons, List.length_nil, List.all_cons, List.all_nil, isCell_int, isCell_bool, isCell_ptr, isCell_slice, isCell_func, Bool.and_true, Bool.and_self, and_self, if_true, List.size_toArray, and_true, true_and, Nat.reduceLeDiff, Nat.le_refl, Bool.not_true, Bool.not_false, Bool.true_and, Bool.false_and, Bool.and_false, Int.reduceBNe, Int.reduceBEq, Int.reduceLT, Int.reduceLE, decide_true, decide_false, l2, hx, hl2, w2, w1]
      exact ⟨⟨k + 1, by omega, by rw [f1], rfl⟩, by omega⟩
  · have : k = L.length := by omega
    subst this
    rw [List.take_length]; exact hR
theorem RElic_ev (l2 : ldE false 1 (.pointer (some ⟨m, 2, none⟩)) H = some v) (hs : ShowL pktE H v L) (hL : L.length ≤ 300) (hR : R (iv (elic L)) H) : EvF P N.sounderref06_Log_Eliciting #[ptr m] H R := by
  refine sounderref06_Log_Eliciting_ev _ _ _ ?_
  simp only [sounderref06_Log_Eliciting_g24, sounderref06_Log_Eliciting_g25, sounderref06_Log_Eliciting_g26, sounderref06_Log_Eliciting_g28, sounderref06_Log_Eliciting_g30, sounderref06_Log_Eliciting_s29, sounderref06_Log_Eliciting_g35, sounderref06_Log_Eliciting_g36, sounderref06_Log_Eliciting_g37, sounderref06_Log_Eliciting_s27, sounderref06_Log_Eliciting_l38, sounderref06_Log_Eliciting]
  refine ⟨fun w3 w4 H' => H' = H ∧ ∃ k : Nat, k ≤ L.length ∧ w3 = iv (elic (L.take k)) ∧ w4 = iv k, fun _ w _ => (match w with | Value.int _ i => (L.length - i).toNat | _ => 0), ⟨rfl, 0, by omega, rfl, rfl⟩, ?_⟩
  rintro w3 w4 H' ⟨rfl, k, hk, rfl, rfl⟩
  have w1 : binV .int .add (iv k) (.int .i64 1) = some (iv ((k + 1 : Nat) : Int)) := by rw [bin_addw (by omega)]; rfl
  simp only [bnd_some, brV_t, brV_f, newE_u, pickE_t, pickE_f, nilV_p, faV_p, cells_int, cells_bool, cells_ptr, cells_slice, cells_func, cells_agg, bin_eql, bin_neq, bin_lss, bin_leq, bin_gtr, bin_geq, bin_eqlb, bin_neqb, bin_eqlp, bin_eqlp0, bin_neqp, bin_neqp0, bin_eqls, bin_eqls0, un_not, un_neg, len_s, ex_t, cv_i, callV_f, Option.bind_some, Option.map_some, Nat.zero_add, Nat.add_zero, Nat.reduceAdd, Nat.reduceMul, size_newB, size_setB, blk_newB_self, own_newB_self, setB_setB, List.getElem?_toArray, List.getElem?_cons_zero, List.getElem?_cons_succ, List.length_cons, List.length_nil, List.all_cons, List.all_nil, isCell_int, isCell_bool, isCell_ptr, isCell_slice, isCell_func, Bool.and_true, Bool.and_self, and_self, if_true, List.size_toArray, and_true, true_and, Nat.reduceLeDiff, Nat.le_refl, Bool.not_true, Bool.not_false, Bool.true_and, Bool.false_and, Bool.and_false, Int.reduceBNe, Int.reduceBEq, Int.reduceLT, Int.reduceLE, decide_true, decide_false, l2, hs.len]
  refine brV_d (fun hlt => ?_) (fun hlt => ?_)
  · have hkl : k < L.length := by omega
    obtain ⟨pb, po, hx, hl, h0, hl2, h3, h4⟩ := hs.pk hkl
    have hel := elic_le (L := L.take k)
    have hll : (L.take k).length ≤ 300 := by rw [List.length_take]; omega
    obtain ⟨_, f1⟩ := flight_takeL hkl
    have w2 : binV .int .add (iv (elic (L.take k))) (.int .i64 1) = some (iv (elic (L.take k) + 1)) := bin_addw (by omega)
    simp only [bnd_some, brV_t, brV_f, newE_u, pickE_t, pickE_f, nilV_p, faV_p, cells_int, cells_bool, cells_ptr, cells_slice, cells_func, cells_agg, bin_eql, bin_neq, bin_lss, bin_leq, bin_gtr, bin_geq, bin_eqlb, bin_neqb, bin_eqlp, bin_eqlp0, bin_neqp, bin_neqp0, bin_eqls, bin_eqls0, un_not, un_neg, len_s, ex_t, cv_i, callV_f, Option.bind_some, Option.map_some, Nat.zero_add, Nat.add_zero, Nat.reduceAdd, Nat.reduceMul, size_newB, size_setB, blk_newB_self, own_newB_self, setB_setB, List.getElem?_toArray, List.getElem?_cons_zero, List.getElem?_cons_succ, List.length_cons, List.length_nil, List.all_cons, List.all_nil, isCell_int, isCell_bool, isCell_ptr, isCell_slice, isCell_func, Bool.and_true, Bool.and_self, and_self, if_true, List.size_toArray, and_true, true_and, Nat.reduceLeDiff, Nat.le_refl, Bool.not_true, Bool.not_false, Bool.true_and, Bool.false_and, Bool.and_false, Int.reduceBNe, Int.reduceBEq, Int.reduceLT, Int.reduceLE, decide_true, decide_false, hx, h4]
    cases hf : L[k].fl
    · rw [hf] at f1
      simp only [Bool.false_and, Bool.false_eq_true, if_false, Int.add_zero] at f1
      simp only [brV_f, w1, bnd_some]
      exact ⟨⟨k + 1, by omega, by rw [f1], rfl⟩, by omega⟩
    · rw [hf] at f1
      simp only [Bool.true_and] at f1
      simp only [bnd_some, brV_t, brV_f, newE_u, pickE_t, pickE_f, nilV_p, faV_p, cells_int, cells_bool, cells_ptr, cells_slice, cells_func, cells_agg, bin_eql, bin_neq, bin_lss, bin_leq, bin_gtr, bin_geq, bin_eqlb, bin_neqb, bin_eqlp, bin_eqlp0, bin_neqp, bin_neqp0, bin_eqls, bin_eqls0, un_not, un_neg, len_s, ex_t, cv_i, callV_f, Option.bind_some, Option.map_some, Nat.zero_add, Nat.add_zero, Nat.reduceAdd, Nat.reduceMul, size_newB, size_setB, blk_newB_self, own_newB_self, setB_setB, List.getElem?_toArray, List.getElem?_cons_zero, List.getElem?_cons_succ, List.length_cons, List.length_nil, List.all_cons, List.all_nil, isCell_int, isCell_bool, isCell_ptr, isCell_slice, isCell_func, Bool.and_true, Bool.and_self, and_self, if_true, List.size_toArray, and_true, true_and, Nat.reduceLeDiff, Nat.le_refl, Bool.not_true, Bool.not_false, Bool.true_and, Bool.false_and, Bool.and_false, Int.reduceBNe, Int.reduceBEq, Int.reduceLT, Int.reduceLE, decide_true, decide_false, l2, hx, h3]
      cases he : L[k].el
      · rw [he] at f1
        simp only [Bool.false_eq_true, if_false, Int.add_zero] at f1
        simp only [brV_f, w1, bnd_some]
        exact ⟨⟨k + 1, by omega, by rw [f1], rfl⟩, by omega⟩
      · rw [he] at f1
        simp only [if_true] at f1
        simp only [brV_t, w2, w1, bnd_some]
        exact ⟨⟨k + 1, by omega, by rw [f1], rfl⟩, by omega⟩
  · have : k = L.length := by omega
    subst this
    rw [List.take_length]; exact hR
theorem build0 : buildV (pktC pkt0) (places [(0, 1), (1, 1), (2, 1), (3, 1), (4, 1), (5, 1)]) [] = some (pv pkt0) := rfl
theorem RGet_ev {n : Int} (l2 : ldE false 1 (.pointer (some ⟨m, 2, none⟩)) H = some v) (hs : ShowL pktE H v L) (hR : ∀ H', Ext [] H H' → R (opt (L.find? fun p => p.num == n)) H') : EvF P N.sounderref06_Log_Get #[ptr m, iv n] H R := by
  refine sounderref06_Log_Get_ev _ _ _ _ ?_
  simp only [sounderref06_Log_Get_g23, sounderref06_Log_Get_g24, sounderref06_Log_Get_g26, sounderref06_Log_Get_g27, sounderref06_Log_Get_g28, sounderref06_Log_Get_g29, sounderref06_Log_Get_g30, sounderref06_Log_Get_s25, sounderref06_Log_Get_l35, sounderref06_Log_Get]
  simp only [bnd_some, brV_t, brV_f, newE_u, pickE_t, pickE_f, nilV_p, faV_p, cells_int, cells_bool, cells_ptr, cells_slice, cells_func, cells_agg, bin_eql, bin_neq, bin_lss, bin_leq, bin_gtr, bin_geq, bin_eqlb, bin_neqb, bin_eqlp, bin_eqlp0, bin_neqp, bin_neqp0, bin_eqls, bin_eqls0, un_not, un_neg, len_s, ex_t, cv_i, callV_f, Option.bind_some, Option.map_some, Nat.zero_add, Nat.add_zero, Nat.reduceAdd, Nat.reduceMul, size_newB, size_setB, blk_newB_self, own_newB_self, setB_setB, List.getElem?_toArray, List.getElem?_cons_zero, List.getElem?_cons_succ, List.length_cons, List.length_nil, List.all_cons, List.all_nil, isCell_int, isCell_bool, isCell_ptr, isCell_slice, isCell_func, Bool.and_true, Bool.and_self, and_self, if_true, List.size_toArray, and_true, true_and, Nat.reduceLeDiff, Nat.le_refl, Bool.not_true, Bool.not_false, Bool.true_and, Bool.false_and, Bool.and_false, Int.reduceBNe, Int.reduceBEq, Int.reduceLT, Int.reduceLE, decide_true, decide_false, pkt0_C]
  have e0 : Ext [] H (newB H 30 (pktC pkt0)) := (Ext.refl _ _).newB _ _
  have er := Ext.refl [] (newB H 30 (pktC pkt0))
  have l2' := ld_ext e0 l2
  have hs' := hs.ext e0 (by simp)
  have hsm := hs.small
  refine ⟨fun w6 H' => H' = newB H 30 (pktC pkt0) ∧ ∃ k : Nat, k ≤ L.length ∧ w6 = iv k ∧ ∀ j (hj : j < L.length), j < k → L[j].num ≠ n, fun w _ => (match w with | Value.int _ i => (L.length - i).toNat | _ => 0), ⟨rfl, 0, by omega, rfl, by omega⟩, ?_⟩
  rintro w6 H' ⟨rfl, k, hk, rfl, hall⟩
  simp only [bnd_some, brV_t, brV_f, newE_u, pickE_t, pickE_f, nilV_p, faV_p, cells_int, cells_bool, cells_ptr, cells_slice, cells_func, cells_agg, bin_eql, bin_neq, bin_lss, bin_leq, bin_gtr, bin_geq, bin_eqlb, bin_neqb, bin_eqlp, bin_eqlp0, bin_neqp, bin_neqp0, bin_eqls, bin_eqls0, un_not, un_neg, len_s, ex_t, cv_i, callV_f, Option.bind_some, Option.map_some, Nat.zero_add, Nat.add_zero, Nat.reduceAdd, Nat.reduceMul, size_newB, size_setB, blk_newB_self, own_newB_self, setB_setB, List.getElem?_toArray, List.getElem?_cons_zero, List.getElem?_cons_succ, List.length_cons, List.length_nil, List.all_cons, List.all_nil, isCell_int, isCell_bool, isCell_ptr, isCell_slice, isCell_func, Bool.and_true, Bool.and_self, and_self, if_true, List.size_toArray, and_true, true_and, Nat.reduceLeDiff, Nat.le_refl, Bool.not_true, Bool.not_false, Bool.true_and, Bool.false_and, Bool.and_false, Int.reduceBNe, Int.reduceBEq, Int.reduceLT, Int.reduceLE, decide_true, decide_false, l2', hs'.len]
  refine brV_d (fun hlt => ?_) (fun hlt => ?_)
  · have hkl : k < L.length := by omega
    obtain ⟨pb, po, hx, hl, h0, hl2, h3, h4⟩ := hs'.pk hkl
    simp only [bnd_some, brV_t, brV_f, newE_u, pickE_t, pickE_f, nilV_p, faV_p, cells_int, cells_bool, cells_ptr, cells_slice, cells_func, cells_agg, bin_eql, bin_neq, bin_lss, bin_leq, bin_gtr, bin_geq, bin_eqlb, bin_neqb, bin_eqlp, bin_eqlp0, bin_neqp, bin_neqp0, bin_eqls, bin_eqls0, un_not, un_neg, len_s, ex_t, cv_i, callV_f, Option.bind_some, Option.map_some, Nat.zero_add, Nat.add_zero, Nat.reduceAdd, Nat.reduceMul, size_newB, size_setB, blk_newB_self, own_newB_self, setB_setB, List.getElem?_toArray, List.getElem?_cons_zero, List.getElem?_cons_succ, List.length_cons, List.length_nil, List.all_cons, List.all_nil, isCell_int, isCell_bool, isCell_ptr, isCell_slice, isCell_func, Bool.and_true, Bool.and_self, and_self, if_true, List.size_toArray, and_true, true_and, Nat.reduceLeDiff, Nat.le_refl, Bool.not_true, Bool.not_false, Bool.true_and, Bool.false_and, Bool.and_false, Int.reduceBNe, Int.reduceBEq, Int.reduceLT, Int.reduceLE, decide_true, decide_false, l2', hx, h0]
    refine brV_i (fun hn => ?_) (fun hn => ?_)
    · have hn' : L[k].num = n := by simpa using hn
      simp only [bnd_some, brV_t, brV_f, newE_u, pickE_t, pickE_f, nilV_p, faV_p, cells_int, cells_bool, cells_ptr, cells_slice, cells_func, cells_agg, bin_eql, bin_neq, bin_lss, bin_leq, bin_gtr, bin_geq, bin_eqlb, bin_neqb, bin_eqlp, bin_eqlp0, bin_neqp, bin_neqp0, bin_eqls, bin_eqls0, un_not, un_neg, len_s, ex_t, cv_i, callV_f, Option.bind_some, Option.map_some, Nat.zero_add, Nat.add_zero, Nat.reduceAdd, Nat.reduceMul, size_newB, size_setB, blk_newB_self, own_newB_self, setB_setB, List.getElem?_toArray, List.getElem?_cons_zero, List.getElem?_cons_succ, List.length_cons, List.length_nil, List.all_cons, List.all_nil, isCell_int, isCell_bool, isCell_ptr, isCell_slice, isCell_func, Bool.and_true, Bool.and_self, and_self, if_true, List.size_toArray, and_true, true_and, Nat.reduceLeDiff, Nat.le_refl, Bool.not_true, Bool.not_false, Bool.true_and, Bool.false_and, Bool.and_false, Int.reduceBNe, Int.reduceBEq, Int.reduceLT, Int.reduceLE, decide_true, decide_false, l2', hx, hl, st_pkt er, st_pkt' er]
      have := hR _ (ext_pkt (q := L[k]) er)
      have hf : L.find? (fun p => p.num == n) = some L[k] := by
        rw [List.find?_eq_some_iff_getElem]
        refine ⟨by simpa using hn', k, hkl, rfl, fun j hj => ?_⟩
        have := hall j (by omega) hj
        simpa using this
      rw [hf] at this; exact this
    · have hn' : L[k].num ≠ n := by simpa using hn
      have w1 : binV .int .add (iv k) (.int .i64 1) = some (iv ((k + 1 : Nat) : Int)) := by rw [bin_addw (by omega)]; rfl
      simp only [w1, bnd_some]
      refine ⟨⟨k + 1, by omega, rfl, fun j hj hjk => ?_⟩, by omega⟩
      rcases Nat.lt_or_ge j k with h | h
      · exact hall j hj h
      · have : j = k := by omega
        subst this; exact hn'
  · simp only [bnd_some, brV_t, brV_f, newE_u, pickE_t, pickE_f, nilV_p, faV_p, cells_int, cells_bool, cells_ptr, cells_slice, cells_func, cells_agg, bin_eql, bin_neq, bin_lss, bin_leq, bin_gtr, bin_geq, bin_eqlb, bin_neqb, bin_eqlp, bin_eqlp0, bin_neqp, bin_neqp0, bin_eqls, bin_eqls0, un_not, un_neg, len_s, ex_t, cv_i, callV_f, Option.bind_some, Option.map_some, Nat.zero_add, Nat.add_zero, Nat.reduceAdd, Nat.reduceMul, size_newB, size_setB, blk_newB_self, own_newB_self, setB_setB, List.getElem?_toArray, List.getElem?_cons_zero, List.getElem?_cons_succ, List.length_cons, List.length_nil, List.all_cons, List.all_nil, isCell_int, isCell_bool, isCell_ptr, isCell_slice, isCell_func, Bool.and_true, Bool.and_self, and_self, if_true, List.size_toArray, and_true, true_and, Nat.reduceLeDiff, Nat.le_refl, Bool.not_true, Bool.not_false, Bool.true_and, Bool.false_and, Bool.and_false, Int.reduceBNe, Int.reduceBEq, Int.reduceLT, Int.reduceLE, decide_true, decide_false, pkt0_C, build0, st_pkt er, st_pkt' er]
    have := hR _ (ext_pkt (q := pkt0) er)
    have hf : L.find? (fun p => p.num == n) = none := by
      rw [List.find?_eq_none]; intro p hp
      obtain ⟨j, hj, rfl⟩ := List.getElem_of_mem hp
      simpa using hall j hj (by omega)
    rw [hf] at this; exact this
theorem ROldest_ev (l2 : ldE false 1 (.pointer (some ⟨m, 2, none⟩)) H = some v) (hs : ShowL pktE H v L) (hR : ∀ H', Ext [] H H' → R (opt L.head?) H') : EvF P N.sounderref06_Log_Oldest #[ptr m] H R := by
  refine sounderref06_Log_Oldest_ev _ _ _ ?_
  simp only [sounderref06_Log_Oldest_g11, sounderref06_Log_Oldest_g12, sounderref06_Log_Oldest_g13, sounderref06_Log_Oldest_g14, sounderref06_Log_Oldest]
  simp only [bnd_some, brV_t, brV_f, newE_u, pickE_t, pickE_f, nilV_p, faV_p, cells_int, cells_bool, cells_ptr, cells_slice, cells_func, cells_agg, bin_eql, bin_neq, bin_lss, bin_leq, bin_gtr, bin_geq, bin_eqlb, bin_neqb, bin_eqlp, bin_eqlp0, bin_neqp, bin_neqp0, bin_eqls, bin_eqls0, un_not, un_neg, len_s, ex_t, cv_i, callV_f, Option.bind_some, Option.map_some, Nat.zero_add, Nat.add_zero, Nat.reduceAdd, Nat.reduceMul, size_newB, size_setB, blk_newB_self, own_newB_self, setB_setB, List.getElem?_toArray, List.getElem?_cons_zero, List.getElem?_cons_succ, List.length_cons, List.length_nil, List.all_cons, List.all_nil, isCell_int, isCell_bool, isCell_ptr, isCell_slice, isCell_func, Bool.and_true, Bool.and_self, and_self, if_true, List.size_toArray, and_true, true_and, Nat.reduceLeDiff, Nat.le_refl, Bool.not_true, Bool.not_false, Bool.true_and, Bool.false_and, Bool.and_false, Int.reduceBNe, Int.reduceBEq, Int.reduceLT, Int.reduceLE, decide_true, decide_false, pkt0_C]
  have e0 : Ext [] H (newB H 30 (pktC pkt0)) := (Ext.refl _ _).newB _ _
  have er := Ext.refl [] (newB H 30 (pktC pkt0))
  have l2' := ld_ext e0 l2
  have hs' := hs.ext e0 (by simp)
  simp only [bnd_some, brV_t, brV_f, newE_u, pickE_t, pickE_f, nilV_p, faV_p, cells_int, cells_bool, cells_ptr, cells_slice, cells_func, cells_agg, bin_eql, bin_neq, bin_lss, bin_leq, bin_gtr, bin_geq, bin_eqlb, bin_neqb, bin_eqlp, bin_eqlp0, bin_neqp, bin_neqp0, bin_eqls, bin_eqls0, un_not, un_neg, len_s, ex_t, cv_i, callV_f, Option.bind_some, Option.map_some, Nat.zero_add, Nat.add_zero, Nat.reduceAdd, Nat.reduceMul, size_newB, size_setB, blk_newB_self, own_newB_self, setB_setB, List.getElem?_toArray, List.getElem?_cons_zero, List.getElem?_cons_succ, List.length_cons, List.length_nil, List.all_cons, List.all_nil, isCell_int, isCell_bool, isCell_ptr, isCell_slice, isCell_func, Bool.and_true, Bool.and_self, and_self, if_true, List.size_toArray, and_true, true_and, Nat.reduceLeDiff, Nat.le_refl, Bool.not_true, Bool.not_false, Bool.true_and, Bool.false_and, Bool.and_false, Int.reduceBNe, Int.reduceBEq, Int.reduceLT, Int.reduceLE, decide_true, decide_false, l2', hs'.len]
  refine brV_i (fun h => ?_) (fun h => ?_)
  · have h0 : L = [] := by have : (L.length : Int) = 0 := by simpa using h
                           exact List.length_eq_zero_iff.1 (by omega)
    simp only [bnd_some, brV_t, brV_f, newE_u, pickE_t, pickE_f, nilV_p, faV_p, cells_int, cells_bool, cells_ptr, cells_slice, cells_func, cells_agg, bin_eql, bin_neq, bin_lss, bin_leq, bin_gtr, bin_geq, bin_eqlb, bin_neqb, bin_eqlp, bin_eqlp0, bin_neqp, bin_neqp0, bin_eqls, bin_eqls0, un_not, un_neg, len_s, ex_t, cv_i, callV_f, Option.bind_some, Option.map_some, Nat.zero_add, Nat.add_zero, Nat.reduceAdd, Nat.reduceMul, size_newB, size_setB, blk_newB_self, own_newB_self, setB_setB, List.getElem?_toArray, List.getElem?_cons_zero, List.getElem?_cons_succ, List.length_cons, List.length_nil, List.all_cons, List.all_nil, isCell_int, isCell_bool, isCell_ptr, isCell_slice, isCell_func, Bool.and_true, Bool.and_self, and_self, if_true, List.size_toArray, and_true, true_and, Nat.reduceLeDiff, Nat.le_refl, Bool.not_true, Bool.not_false, Bool.true_and, Bool.false_and, Bool.and_false, Int.reduceBNe, Int.reduceBEq, Int.reduceLT, Int.reduceLE, decide_true, decide_false, pkt0_C, build0, st_pkt er, st_pkt' er]
    have := hR _ (ext_pkt (q := pkt0) er)
    rw [h0] at this; exact this
  · have h0 : 0 < L.length := by have : (L.length : Int) ≠ 0 := by simpa using h
                                 omega
    obtain ⟨pb, po, hx, hl, _⟩ := hs'.pk h0
    have hx' : ixSV 6 v (.int .i64 0) = some (.pointer (some ⟨pb, po, none⟩)) := hx
    simp only [bnd_some, brV_t, brV_f, newE_u, pickE_t, pickE_f, nilV_p, faV_p, cells_int, cells_bool, cells_ptr, cells_slice, cells_func, cells_agg, bin_eql, bin_neq, bin_lss, bin_leq, bin_gtr, bin_geq, bin_eqlb, bin_neqb, bin_eqlp, bin_eqlp0, bin_neqp, bin_neqp0, bin_eqls, bin_eqls0, un_not, un_neg, len_s, ex_t, cv_i, callV_f, Option.bind_some, Option.map_some, Nat.zero_add, Nat.add_zero, Nat.reduceAdd, Nat.reduceMul, size_newB, size_setB, blk_newB_self, own_newB_self, setB_setB, List.getElem?_toArray, List.getElem?_cons_zero, List.getElem?_cons_succ, List.length_cons, List.length_nil, List.all_cons, List.all_nil, isCell_int, isCell_bool, isCell_ptr, isCell_slice, isCell_func, Bool.and_true, Bool.and_self, and_self, if_true, List.size_toArray, and_true, true_and, Nat.reduceLeDiff, Nat.le_refl, Bool.not_true, Bool.not_false, Bool.true_and, Bool.false_and, Bool.and_false, Int.reduceBNe, Int.reduceBEq, Int.reduceLT, Int.reduceLE, decide_true, decide_false, l2', hx', hl, st_pkt er, st_pkt' er]
    have := hR _ (ext_pkt (q := L[0]) er)
    have hh : L.head? = some L[0] := by cases L with
      | nil => simp at h0
      | cons a l => rfl
    rw [hh] at this; exact this
theorem RBetween_sep {lo hi : Int} (h : Sep H0 H (refA m room top L :: Qs)) (hL : L.length ≤ 300) (hR : ∀ H' v, Sep H0 H' (lstA pktE v (within lo hi L) :: refA m room top L :: Qs) → R v H') :
    EvF P N.sounderref06_Log_Between #[ptr m, iv lo, iv hi] H R := by
  refine sounderref06_Log_Between_ev _ _ _ _ _ ?_
  simp only [sounderref06_Log_Between_g24, sounderref06_Log_Between_g25, sounderref06_Log_Between_g26, sounderref06_Log_Between_g28, sounderref06_Log_Between_g30, sounderref06_Log_Between_s29, sounderref06_Log_Between_g35, sounderref06_Log_Between_g36, sounderref06_Log_Between_g37, sounderref06_Log_Between_s27, sounderref06_Log_Between_l38, sounderref06_Log_Between]
  refine ⟨fun w7 w8 H' => ∃ k : Nat, k ≤ L.length ∧ w8 = iv k ∧ Sep H0 H' (lstA pktE w7 (within lo hi (L.take k)) :: refA m room top L :: Qs), fun _ w _ => (match w with | Value.int _ i => (L.length - i).toNat | _ => 0), ⟨0, by omega, rfl, h.newL⟩, ?_⟩
  clear h
  rintro w7 w8 H' ⟨k, hk, rfl, h⟩
  obtain ⟨v, l0, l1, l2, hsh⟩ := h.b1.ref
  have w1 : binV .int .add (iv k) (.int .i64 1) = some (iv ((k + 1 : Nat) : Int)) := by rw [bin_addw (by omega)]; rfl
  simp only [bnd_some, brV_t, brV_f, newE_u, pickE_t, pickE_f, nilV_p, faV_p, cells_int, cells_bool, cells_ptr, cells_slice, cells_func, cells_agg, bin_eql, bin_neq, bin_lss, bin_leq, bin_gtr, bin_geq, bin_eqlb, bin_neqb, bin_eqlp, bin_eqlp0, bin_neqp, bin_neqp0, bin_eqls, bin_eqls0, un_not, un_neg, len_s, ex_t, cv_i, callV_f, Option.bind_some, Option.map_some, Nat.zero_add, Nat.add_zero, Nat.reduceAdd, Nat.reduceMul, size_newB, size_setB, blk_newB_self, own_newB_self, setB_setB, List.getElem?_toArray, List.getElem?_cons_zero, List.getElem?_cons_succ, List.length_cons, List.length_nil, List.all_cons, List.all_nil, isCell_int, isCell_bool, isCell_ptr, isCell_slice, isCell_func, Bool.and_true, Bool.and_self, and_self, if_true, List.size_toArray, and_true, true_and, Nat.reduceLeDiff, Nat.le_refl, Bool.not_true, Bool.not_false, Bool.true_and, Bool.false_and, Bool.and_false, Int.reduceBNe, Int.reduceBEq, Int.reduceLT, Int.reduceLE, decide_true, decide_false, l2, hsh.len]
  refine brV_d (fun hlt => ?_) (fun hlt => ?_)
  · have hkl : k < L.length := by omega
    obtain ⟨pb, po, hx, hl, h0, _⟩ := hsh.pk hkl
    have ew : ∀ b : Bool, (decide (lo ≤ L[k].num) && decide (L[k].num ≤ hi)) = b → within lo hi (L.take (k + 1)) = within lo hi (L.take k) ++ (if b then [L[k]] else []) := fun b hb => by
      unfold within
      rw [List.take_succ_eq_append_getElem hkl, List.filter_append, List.filter_cons, hb, List.filter_nil]
    have hwl : (within lo hi (L.take k)).length ≤ 300 := by
      have := within_len (a := lo) (b := hi) (L := L.take k)
      rw [List.length_take] at this; omega
    simp only [bnd_some, brV_t, brV_f, newE_u, pickE_t, pickE_f, nilV_p, faV_p, cells_int, cells_bool, cells_ptr, cells_slice, cells_func, cells_agg, bin_eql, bin_neq, bin_lss, bin_leq, bin_gtr, bin_geq, bin_eqlb, bin_neqb, bin_eqlp, bin_eqlp0, bin_neqp, bin_neqp0, bin_eqls, bin_eqls0, un_not, un_neg, len_s, ex_t, cv_i, callV_f, Option.bind_some, Option.map_some, Nat.zero_add, Nat.add_zero, Nat.reduceAdd, Nat.reduceMul, size_newB, size_setB, blk_newB_self, own_newB_self, setB_setB, List.getElem?_toArray, List.getElem?_cons_zero, List.getElem?_cons_succ, List.length_cons, List.length_nil, List.all_cons, List.all_nil, isCell_int, isCell_bool, isCell_ptr, isCell_slice, isCell_func, Bool.and_true, Bool.and_self, and_self, if_true, List.size_toArray, and_true, true_and, Nat.reduceLeDiff, Nat.le_refl, Bool.not_true, Bool.not_false, Bool.true_and, Bool.false_and, Bool.and_false, Int.reduceBNe, Int.reduceBEq, Int.reduceLT, Int.reduceLE, decide_true, decide_false, l2, hx, h0]
    refine brV_d (fun h1 => ?_) (fun h1 => ?_)
    · try simp only [bnd_some, brV_t, brV_f, newE_u, pickE_t, pickE_f, nilV_p, faV_p, cells_int, cells_bool, cells_ptr, cells_slice, cells_func, cells_agg, bin_eql, bin_neq, bin_lss, bin_leq, bin_gtr, bin_geq, bin_eqlb, bin_neqb, bin_eqlp, bin_eqlp0, bin_neqp, bin_neqp0, bin_eqls, bin_eqls0, un_not, un_neg, len_s, ex_t, cv_i, callV_f, Option.bind_some, Option.map_some, Nat.zero_add, Nat.add_zero, Nat.reduceAdd, Nat.reduceMul, size_newB, size_setB, blk_newB_self, own_newB_self, setB_setB, List.getElem?_toArray, List.getElem?_cons_zero, List.getElem?_cons_succ, List.length_cons, List.length_nil, List.all_cons, List.all_nil, isCell_int, isCell_bool, isCell_ptr, isCell_slice, isCell_func, Bool.and_true, Bool.and_self, and_self, if_true, List.size_toArray, and_true, true_and, Nat.reduceLeDiff, Nat.le_refl, Bool.not_true, Bool.not_false, Bool.true_and, Bool.false_and, Bool.and_false, Int.reduceBNe, Int.reduceBEq, Int.reduceLT, Int.reduceLE, decide_true, decide_false, l2, hx, h0]
      refine brV_d (fun h2 => ?_) (fun h2 => ?_)
      · try simp only [bnd_some, brV_t, brV_f, newE_u, pickE_t, pickE_f, nilV_p, faV_p, cells_int, cells_bool, cells_ptr, cells_slice, cells_func, cells_agg, bin_eql, bin_neq, bin_lss, bin_leq, bin_gtr, bin_geq, bin_eqlb, bin_neqb, bin_eqlp, bin_eqlp0, bin_neqp, bin_neqp0, bin_eqls, bin_eqls0, un_not, un_neg, len_s, ex_t, cv_i, callV_f, Option.bind_some, Option.map_some, Nat.zero_add, Nat.add_zero, Nat.reduceAdd, Nat.reduceMul, size_newB, size_setB, blk_newB_self, own_newB_self, setB_setB, List.getElem?_toArray, List.getElem?_cons_zero, List.getElem?_cons_succ, List.length_cons, List.length_nil, List.all_cons, List.all_nil, isCell_int, isCell_bool, isCell_ptr, isCell_slice, isCell_func, Bool.and_true, Bool.and_self, and_self, if_true, List.size_toArray, and_true, true_and, Nat.reduceLeDiff, Nat.le_refl, Bool.not_true, Bool.not_false, Bool.true_and, Bool.false_and, Bool.and_false, Int.reduceBNe, Int.reduceBEq, Int.reduceLT, Int.reduceLE, decide_true, decide_false, l2, hx, hl]
        refine bslE_1 (E := pktE) (a := L[k]) rfl (fun H5 _ he5 ho5 => ?_) (by decide)
        refine appE_sep (E := pktE) (h.ext he5) ho5.show (by simp only [List.length_cons, List.length_nil]; omega) (by decide) (by simp only [List.length_cons, List.length_nil]; omega) fun H6 v6 h6 => ?_
        simp only [w1, bnd_some]
        have := ew true (by simp [h1, h2])
        simp only [if_true] at this
        first | exact ⟨⟨k + 1, by omega, rfl, by rw [this]; exact h6⟩, by omega⟩ | exact ⟨rfl, rfl, rfl, ⟨k + 1, by omega, rfl, by rw [this]; exact h6⟩, by simp only [iv]; omega⟩
      · simp only [w1, bnd_some]
        have := ew false (by simp [h2])
        simp only [Bool.false_eq_true, if_false, List.append_nil] at this
        exact ⟨⟨k + 1, by omega, rfl, by rw [this]; exact h⟩, by omega⟩
    · simp only [brV_f, w1, bnd_some]
      have := ew false (by simp [h1])
      simp only [Bool.false_eq_true, if_false, List.append_nil] at this
      exact ⟨⟨k + 1, by omega, rfl, by rw [this]; exact h⟩, by omega⟩
  · have : k = L.length := by omega
    subst this
    rw [List.take_length] at h
    exact hR _ _ h
theorem RDrop_sep {n : Int} (h : Sep H0 H (refA m room top L :: Qs)) (hL : L.length ≤ 300) (hR : ∀ H', Sep H0 H' (refA m room top (L.filter fun p => p.num != n) :: Qs) → R (opt (L.find? fun p => p.num == n)) H') :
    EvF P N.sounderref06_Log_Drop #[ptr m, iv n] H R := by
  refine sounderref06_Log_Drop_ev _ _ _ _ ?_
  simp only [sounderref06_Log_Drop_g28, sounderref06_Log_Drop_g29, sounderref06_Log_Drop_g30, sounderref06_Log_Drop_g31, sounderref06_Log_Drop_g33, sounderref06_Log_Drop_g35, sounderref06_Log_Drop_s34, sounderref06_Log_Drop_g40, sounderref06_Log_Drop_g41, sounderref06_Log_Drop_g42, sounderref06_Log_Drop_g43, sounderref06_Log_Drop_s32, sounderref06_Log_Drop_l44, sounderref06_Log_Drop]
  simp only [bnd_some, brV_t, brV_f, newE_u, pickE_t, pickE_f, nilV_p, faV_p, cells_int, cells_bool, cells_ptr, cells_slice, cells_func, cells_agg, bin_eql, bin_neq, bin_lss, bin_leq, bin_gtr, bin_geq, bin_eqlb, bin_neqb, bin_eqlp, bin_eqlp0, bin_neqp, bin_neqp0, bin_eqls, bin_eqls0, un_not, un_neg, len_s, ex_t, cv_i, callV_f, Option.bind_some, Option.map_some, Nat.zero_add, Nat.add_zero, Nat.reduceAdd, Nat.reduceMul, size_newB, size_setB, blk_newB_self, own_newB_self, setB_setB, List.getElem?_toArray, List.getElem?_cons_zero, List.getElem?_cons_succ, List.length_cons, List.length_nil, List.all_cons, List.all_nil, isCell_int, isCell_bool, isCell_ptr, isCell_slice, isCell_func, Bool.and_true, Bool.and_self, and_self, if_true, List.size_toArray, and_true, true_and, Nat.reduceLeDiff, Nat.le_refl, Bool.not_true, Bool.not_false, Bool.true_and, Bool.false_and, Bool.and_false, Int.reduceBNe, Int.reduceBEq, Int.reduceLT, Int.reduceLE, decide_true, decide_false, pkt0_C]
  replace h := (h.newC (t := 30) (c := pktC pkt0)).b1
  generalize newB H 30 (pktC pkt0) = H1 at h
  generalize H.size = x4 at h
  obtain ⟨v, l0, l1, l2, hsh⟩ := h.ref
  refine RGet_ev l2 hsh fun H2 he => ?_
  replace h := h.ext he
  have hop : opt (L.find? fun p => p.num == n) = .tuple #[pv ((L.find? fun p => p.num == n).getD pkt0), .bool (L.find? fun p => p.num == n).isSome] := rfl
  rw [hop] at hR ⊢
  generalize ((L.find? fun p => p.num == n).getD pkt0) = q at hR ⊢
  generalize (L.find? fun p => p.num == n).isSome = is at hR ⊢
  simp only [bnd_some, brV_t, brV_f, newE_u, pickE_t, pickE_f, nilV_p, faV_p, cells_int, cells_bool, cells_ptr, cells_slice, cells_func, cells_agg, bin_eql, bin_neq, bin_lss, bin_leq, bin_gtr, bin_geq, bin_eqlb, bin_neqb, bin_eqlp, bin_eqlp0, bin_neqp, bin_neqp0, bin_eqls, bin_eqls0, un_not, un_neg, len_s, ex_t, cv_i, callV_f, Option.bind_some, Option.map_some, Nat.zero_add, Nat.add_zero, Nat.reduceAdd, Nat.reduceMul, size_newB, size_setB, blk_newB_self, own_newB_self, setB_setB, List.getElem?_toArray, List.getElem?_cons_zero, List.getElem?_cons_succ, List.length_cons, List.length_nil, List.all_cons, List.all_nil, isCell_int, isCell_bool, isCell_ptr, isCell_slice, isCell_func, Bool.and_true, Bool.and_self, and_self, if_true, List.size_toArray, and_true, true_and, Nat.reduceLeDiff, Nat.le_refl, Bool.not_true, Bool.not_false, Bool.true_and, Bool.false_and, Bool.and_false, Int.reduceBNe, Int.reduceBEq, Int.reduceLT, Int.reduceLE, decide_true, decide_false, pkt0_C]
  obtain ⟨H3, hst, h⟩ := newP_sep (p := pkt0) (q := q) (t := 30) h
  simp only [hst, bnd_some]
  refine ⟨fun w8 w9 H' => ∃ k : Nat, k ≤ L.length ∧ w9 = iv k ∧ Sep H0 H' (lstA pktE w8 ((L.take k).filter fun p => p.num != n) :: cellsA H2.size (pktC q) :: refA m room top L :: cellsA x4 (pktC pkt0) :: Qs), fun _ w _ => (match w with | Value.int _ i => (L.length - i).toNat | _ => 0), ⟨0, by omega, rfl, h.newL⟩, ?_⟩
  clear h l0 l1 l2 hsh
  rintro w8 w9 H' ⟨k, hk, rfl, h⟩
  obtain ⟨v, l0, l1, l2, hsh⟩ := h.b2.ref
  have w1 : binV .int .add (iv k) (.int .i64 1) = some (iv ((k + 1 : Nat) : Int)) := by rw [bin_addw (by omega)]; rfl
  simp only [bnd_some, brV_t, brV_f, newE_u, pickE_t, pickE_f, nilV_p, faV_p, cells_int, cells_bool, cells_ptr, cells_slice, cells_func, cells_agg, bin_eql, bin_neq, bin_lss, bin_leq, bin_gtr, bin_geq, bin_eqlb, bin_neqb, bin_eqlp, bin_eqlp0, bin_neqp, bin_neqp0, bin_eqls, bin_eqls0, un_not, un_neg, len_s, ex_t, cv_i, callV_f, Option.bind_some, Option.map_some, Nat.zero_add, Nat.add_zero, Nat.reduceAdd, Nat.reduceMul, size_newB, size_setB, blk_newB_self, own_newB_self, setB_setB, List.getElem?_toArray, List.getElem?_cons_zero, List.getElem?_cons_succ, List.length_cons, List.length_nil, List.all_cons, List.all_nil, isCell_int, isCell_bool, isCell_ptr, isCell_slice, isCell_func, Bool.and_true, Bool.and_self, and_self, if_true, List.size_toArray, and_true, true_and, Nat.reduceLeDiff, Nat.le_refl, Bool.not_true, Bool.not_false, Bool.true_and, Bool.false_and, Bool.and_false, Int.reduceBNe, Int.reduceBEq, Int.reduceLT, Int.reduceLE, decide_true, decide_false, l2, hsh.len]
  refine brV_d (fun hlt => ?_) (fun hlt => ?_)
  · have hkl : k < L.length := by omega
    obtain ⟨pb, po, hx, hl, h0, _⟩ := hsh.pk hkl
    have ew : ∀ b : Bool, (L[k].num != n) = b → ((L.take (k + 1)).filter fun p => p.num != n) = ((L.take k).filter fun p => p.num != n) ++ (if b then [L[k]] else []) := fun b hb => by
      rw [List.take_succ_eq_append_getElem hkl, List.filter_append, List.filter_cons, hb, List.filter_nil]
    have hwl : ((L.take k).filter fun p => p.num != n).length ≤ 300 := by
      have := List.length_filter_le (fun p : Pkt => p.num != n) (L.take k)
      rw [List.length_take] at this; omega
    simp only [bnd_some, brV_t, brV_f, newE_u, pickE_t, pickE_f, nilV_p, faV_p, cells_int, cells_bool, cells_ptr, cells_slice, cells_func, cells_agg, bin_eql, bin_neq, bin_lss, bin_leq, bin_gtr, bin_geq, bin_eqlb, bin_neqb, bin_eqlp, bin_eqlp0, bin_neqp, bin_neqp0, bin_eqls, bin_eqls0, un_not, un_neg, len_s, ex_t, cv_i, callV_f, Option.bind_some, Option.map_some, Nat.zero_add, Nat.add_zero, Nat.reduceAdd, Nat.reduceMul, size_newB, size_setB, blk_newB_self, own_newB_self, setB_setB, List.getElem?_toArray, List.getElem?_cons_zero, List.getElem?_cons_succ, List.length_cons, List.length_nil, List.all_cons, List.all_nil, isCell_int, isCell_bool, isCell_ptr, isCell_slice, isCell_func, Bool.and_true, Bool.and_self, and_self, if_true, List.size_toArray, and_true, true_and, Nat.reduceLeDiff, Nat.le_refl, Bool.not_true, Bool.not_false, Bool.true_and, Bool.false_and, Bool.and_false, Int.reduceBNe, Int.reduceBEq, Int.reduceLT, Int.reduceLE, decide_true, decide_false, l2, hx, h0]
    refine brV_i (fun h1 => ?_) (fun h1 => ?_)
    · simp only [bnd_some, brV_t, brV_f, newE_u, pickE_t, pickE_f, nilV_p, faV_p, cells_int, cells_bool, cells_ptr, cells_slice, cells_func, cells_agg, bin_eql, bin_neq, bin_lss, bin_leq, bin_gtr, bin_geq, bin_eqlb, bin_neqb, bin_eqlp, bin_eqlp0, bin_neqp, bin_neqp0, bin_eqls, bin_eqls0, un_not, un_neg, len_s, ex_t, cv_i, callV_f, Option.bind_some, Option.map_some, Nat.zero_add, Nat.add_zero, Nat.reduceAdd, Nat.reduceMul, size_newB, size_setB, blk_newB_self, own_newB_self, setB_setB, List.getElem?_toArray, List.getElem?_cons_zero, List.getElem?_cons_succ, List.length_cons, List.length_nil, List.all_cons, List.all_nil, isCell_int, isCell_bool, isCell_ptr, isCell_slice, isCell_func, Bool.and_true, Bool.and_self, and_self, if_true, List.size_toArray, and_true, true_and, Nat.reduceLeDiff, Nat.le_refl, Bool.not_true, Bool.not_false, Bool.true_and, Bool.false_and, Bool.and_false, Int.reduceBNe, Int.reduceBEq, Int.reduceLT, Int.reduceLE, decide_true, decide_false, l2, hx, hl]
      refine bslE_1 (E := pktE) (a := L[k]) rfl (fun H5 _ he5 ho5 => ?_) (by decide)
      refine appE_sep (E := pktE) (h.ext he5) ho5.show (by simp only [List.length_cons, List.length_nil]; omega) (by decide) (by simp only [List.length_cons, List.length_nil]; omega) fun H6 v6 h6 => ?_
      simp only [w1, bnd_some]
      have := ew true h1
      simp only [if_true] at this
      first | exact ⟨⟨k + 1, by omega, rfl, by rw [this]; exact h6⟩, by omega⟩ | exact ⟨rfl, rfl, rfl, rfl, rfl, ⟨k + 1, by omega, rfl, by rw [this]; exact h6⟩, by simp only [iv]; omega⟩
    · simp only [w1, bnd_some]
      have := ew false h1
      simp only [Bool.false_eq_true, if_false, List.append_nil] at this
      first | exact ⟨⟨k + 1, by omega, rfl, by rw [this]; exact h⟩, by omega⟩ | exact ⟨rfl, rfl, rfl, rfl, rfl, ⟨k + 1, by omega, rfl, by rw [this]; exact h⟩, by simp only [iv]; omega⟩
  · have : k = L.length := by omega
    subst this
    rw [List.take_length] at h
    obtain ⟨H4, s, h4⟩ := (h.b2.b1).refSet
    have lq : ldE true 6 (.pointer (some ⟨H2.size, 0, none⟩)) H4 = some (pv q) := ldP_sep h4.b1
    have hx4 := h4.b2.cells
    have st4 : stE 6 (.pointer (some ⟨x4, 0, none⟩)) (pv q) H4 = some (setB H4 x4 (pktC q)) := by
      simp only [stE_p, cells_agg, pktC_s, if_true]
      rw [wrA_u hx4 (by rw [pktC_l]; exact Nat.le_refl _) pktC_a, splice_pkt]
    have h5 := h4.b2.set (c' := pktC q)
    have lq4 : ldE true 6 (.pointer (some ⟨x4, 0, none⟩)) (setB H4 x4 (pktC q)) = some (pv q) := ldP_sep h5
    simp only [bnd_some, brV_t, brV_f, newE_u, pickE_t, pickE_f, nilV_p, faV_p, cells_int, cells_bool, cells_ptr, cells_slice, cells_func, cells_agg, bin_eql, bin_neq, bin_lss, bin_leq, bin_gtr, bin_geq, bin_eqlb, bin_neqb, bin_eqlp, bin_eqlp0, bin_neqp, bin_neqp0, bin_eqls, bin_eqls0, un_not, un_neg, len_s, ex_t, cv_i, callV_f, Option.bind_some, Option.map_some, Nat.zero_add, Nat.add_zero, Nat.reduceAdd, Nat.reduceMul, size_newB, size_setB, blk_newB_self, own_newB_self, setB_setB, List.getElem?_toArray, List.getElem?_cons_zero, List.getElem?_cons_succ, List.length_cons, List.length_nil, List.all_cons, List.all_nil, isCell_int, isCell_bool, isCell_ptr, isCell_slice, isCell_func, Bool.and_true, Bool.and_self, and_self, if_true, List.size_toArray, and_true, true_and, Nat.reduceLeDiff, Nat.le_refl, Bool.not_true, Bool.not_false, Bool.true_and, Bool.false_and, Bool.and_false, Int.reduceBNe, Int.reduceBEq, Int.reduceLT, Int.reduceLE, decide_true, decide_false, s, lq, st4, lq4]
    exact hR _ h5.drop.b1.drop
end
end Go.Hc

/- The log: New, Put. -/
import Derived.Test.YtchdnhbkjfdnmaaS06C
set_option linter.unusedSimpArgs false
set_option linter.unusedVariables false
namespace Go.Hc
open Go

theorem slot0_C : (#[.int .i64 0, .int .i64 0, .int .i64 0, .bool false, .bool false, .bool false, .bool false] : Array Value) = slotC (pkt0, false) := rfl
theorem slotC_s {s : Pkt × Bool} : (slotC s).size = 7 := rfl
theorem slotC_a {s : Pkt × Bool} : (slotC s).toList.all isCell = true := by simp [slotC, isCell]
theorem slotC_l {s : Pkt × Bool} : (slotC s).toList.length = 7 := rfl
theorem LogR.row {H : Heap} {b rb cap room fr : Nat} {top ma fl el : Int} {sl : List (Pkt × Bool)} (h : LogR H b rb cap room top fr sl ma fl el) {i : Nat} (hi : i < sl.length) :
    ldE true 7 (.pointer (some ⟨rb, (fr + i) % (2 * room) * 7, none⟩)) H = some (.agg (slotC sl[i])) := by
  obtain ⟨c, f, hc, hr, hcap, hf⟩ := h.ring
  have h1 := h.hroom
  have hlt : (fr + i) % (2 * room) < cap := Nat.lt_of_lt_of_le (Nat.mod_lt _ (by omega)) hcap
  have := hr.get hlt
  rw [hf i hi] at this
  simp only [ldE_t, rdA_u, own_blk hc, Option.bind_some, this, Option.map_some]

theorem New_ev {H : Heap} {r : Int} {R : Value → Heap → Prop}
    (hbad : ¬ (1 ≤ r ∧ r ≤ 256) → R (.tuple #[.pointer none, iv 2]) H)
    (hok : ∀ room : Nat, r = room → 1 ≤ room → room ≤ 256 → ∀ H', Ext [] H H' → LogOf H' (H.size + 1) H.size room (-1) [] → R (.tuple #[ptr (H.size + 1), iv 0]) H') :
    EvF P N.sent_New #[iv r] H R := by
  refine sent_New_ev _ _ _ ?_
  simp only [sent_New_g11, sent_New_g12, sent_New_g13, sent_New_g14, sent_New]
  simp only [bnd_some, brV_t, brV_f, newE_u, pickE_t, pickE_f, nilV_p, faV_p, cells_int, cells_bool, cells_ptr, cells_slice, cells_func, cells_agg, bin_eql, bin_neq, bin_lss, bin_leq, bin_gtr, bin_geq, bin_eqlb, bin_neqb, bin_eqlp, bin_eqlp0, bin_neqp, bin_neqp0, bin_eqls, bin_eqls0, un_not, un_neg, len_s, ex_t, cv_i, callV_f, Option.bind_some, Option.map_some, Nat.zero_add, Nat.add_zero, Nat.reduceAdd, Nat.reduceMul, size_newB, size_setB, blk_newB_self, own_newB_self, setB_setB, List.getElem?_toArray, List.getElem?_cons_zero, List.getElem?_cons_succ, List.length_cons, List.length_nil, List.all_cons, List.all_nil, isCell_int, isCell_bool, isCell_ptr, isCell_slice, isCell_func, Bool.and_true, Bool.and_self, and_self, if_true, List.size_toArray, and_true, true_and, Nat.reduceLeDiff, Nat.le_refl, Bool.not_true, Bool.not_false, Bool.true_and, Bool.false_and, Bool.and_false, Int.reduceBNe, Int.reduceBEq, Int.reduceLT, Int.reduceLE, decide_true, decide_false]
  have good : (1 ≤ r ∧ r ≤ 256) → bnd (some (Value.int .i64 (IntKind.i64.wrap (2 * r)))) fun v12 => mslE 65 #[(.int .i64 0), (.int .i64 0), (.int .i64 0), (.bool false), (.bool false), (.bool false), (.bool false)] 40 v12 v12 H fun v13 H1 =>
      bnd (buildV #[(.int .i64 0), (.int .i64 0), (.slice none 0 0), (.int .i64 0), (.int .i64 0), (.int .i64 0), (.int .i64 0), (.int .i64 0)] (places [(0, 1), (1, 1), (2, 1), (3, 1), (4, 1), (5, 1), (6, 1), (7, 1)]) [(0, iv r), (1, (.int .i64 (-1))), (2, v13)]) fun v14 =>
      newE 62 (Value.cells v14) H1 fun v15 H2 => R (.tuple #[v15, .int .i64 0]) H2 := by
    intro hr
    have w : IntKind.i64.wrap (2 * r) = 2 * r := wrap_in (by omega)
    rw [bnd_some, w]
    refine ⟨by omega, ?_⟩
    have hb : buildV #[(.int .i64 0), (.int .i64 0), (.slice none 0 0), (.int .i64 0), (.int .i64 0), (.int .i64 0), (.int .i64 0), (.int .i64 0)] (places [(0, 1), (1, 1), (2, 1), (3, 1), (4, 1), (5, 1), (6, 1), (7, 1)]) [(0, iv r), (1, (.int .i64 (-1))), (2, .slice (some ⟨H.size, 0, none⟩) (2 * r).toNat (2 * r).toNat)] =
        some (.agg (logC r (-1) H.size (2 * r).toNat (2 * r).toNat 0 0 0 0 0)) := rfl
    dsimp only
    rw [hb, bnd_some, cells_agg]
    have e : (2 * r).toNat = 2 * r.toNat := by omega
    have hn : ((r.toNat : Nat) : Int) = r := by omega
    simp only [newE_u]
    have hs1 : (newB H 65 (repZ #[(.int .i64 0), (.int .i64 0), (.int .i64 0), (.bool false), (.bool false), (.bool false), (.bool false)] (2 * r).toNat)).size = H.size + 1 := size_newB _ _ _
    rw [hs1]
    refine hok r.toNat hn.symm (by omega) (by omega) _ (((Ext.refl _ _).newB _ _).newB _ _) ⟨2 * r.toNat, 0, [], ?_⟩
    refine ⟨⟨?_, by omega, by omega, by omega, by simp, _, _, ?_, Rows.zero (2 * r.toNat) (z := slotC (pkt0, false)) rfl, Nat.le_refl _, by simp⟩, by simp [Up], rfl, by simp, by omega, by simp, by simp⟩
    · rw [← hs1, own_newB_self, hn, e]; rfl
    · rw [own_newB_ne (by omega), own_newB_self, e]; rfl
  refine brV_d (fun h => ?_) (fun h => ?_)
  · exact hbad (by omega)
  · refine brV_d (fun h2 => ?_) (fun h2 => ?_)
    · exact hbad (by omega)
    · have := good (by omega); rw [bnd_some] at this; rw [bin_mul, bnd_some]; exact this

theorem take_filter_succ {sl : List (Pkt × Bool)} {i : Nat} (hi : i < sl.length) : (sl.take (i + 1)).filter (·.2) = (sl.take i).filter (·.2) ++ (if sl[i].2 then [sl[i]] else []) := by
  rw [List.take_succ_eq_append_getElem hi, List.filter_append]
  cases h : sl[i].2 <;> simp [h]
theorem pack_ev {H : Heap} {b rb cap room fr : Nat} {top ma fl el : Int} {sl : List (Pkt × Bool)} {R : Value → Heap → Prop} (h : LogR H b rb cap room top fr sl ma fl el)
    (hR : ∀ H', Ext [b] H H' → LogR H' b H.size (2 * room) room top 0 (sl.filter (·.2)) ma fl el → R (.tuple #[]) H') : EvF P N.sent_Log_pack #[ptr b] H R := by
  refine sent_Log_pack_ev _ _ _ ?_
  have hroom := h.hroom
  have hlen := h.hlen
  have hlb := own_lt h.log
  obtain ⟨c0, f0, hc0, hr0, hcap0, hf0⟩ := h.ring
  have hlrb := own_lt hc0
  have hb2 : ldE false 1 (.pointer (some ⟨b, 2, none⟩)) H = some (.slice (some ⟨rb, 0, none⟩) (2 * room) cap) := ld_ptr (own_blk h.log) logC_2
  simp only [sent_Log_pack_g29, sent_Log_pack_g30, sent_Log_pack_g31, sent_Log_pack_g33, sent_Log_pack_g35, sent_Log_pack_s34, sent_Log_pack_g40, sent_Log_pack_g41, sent_Log_pack_g42, sent_Log_pack_g43, sent_Log_pack_g44, sent_Log_pack_g45, sent_Log_pack_s32, sent_Log_pack_l46, sent_Log_pack]
  simp only [bnd_some, brV_t, brV_f, newE_u, pickE_t, pickE_f, nilV_p, faV_p, cells_int, cells_bool, cells_ptr, cells_slice, cells_func, cells_agg, bin_eql, bin_neq, bin_lss, bin_leq, bin_gtr, bin_geq, bin_eqlb, bin_neqb, bin_eqlp, bin_eqlp0, bin_neqp, bin_neqp0, bin_eqls, bin_eqls0, un_not, un_neg, len_s, ex_t, cv_i, callV_f, Option.bind_some, Option.map_some, Nat.zero_add, Nat.add_zero, Nat.reduceAdd, Nat.reduceMul, size_newB, size_setB, blk_newB_self, own_newB_self, setB_setB, List.getElem?_toArray, List.getElem?_cons_zero, List.getElem?_cons_succ, List.length_cons, List.length_nil, List.all_cons, List.all_nil, isCell_int, isCell_bool, isCell_ptr, isCell_slice, isCell_func, Bool.and_true, Bool.and_self, and_self, if_true, List.size_toArray, and_true, true_and, Nat.reduceLeDiff, Nat.le_refl, Bool.not_true, Bool.not_false, Bool.true_and, Bool.false_and, Bool.and_false, Int.reduceBNe, Int.reduceBEq, Int.reduceLT, Int.reduceLE, decide_true, decide_false, hb2, slot0_C]
  refine ⟨by omega, ?_⟩
  simp only [Int.toNat_natCast]
  have e0 : Ext [] H (newB H 65 (repZ (slotC (pkt0, false)) (2 * room))) := (Ext.refl _ _).newB _ _
  have h0 := h.ext e0 (by simp) (by simp)
  have hb4 : ldE false 1 (.pointer (some ⟨b, 4, none⟩)) (newB H 65 (repZ (slotC (pkt0, false)) (2 * room))) = some (iv sl.length) := ld_ptr (own_blk h0.log) logC_4
  simp only [bnd_some, brV_t, brV_f, newE_u, pickE_t, pickE_f, nilV_p, faV_p, cells_int, cells_bool, cells_ptr, cells_slice, cells_func, cells_agg, bin_eql, bin_neq, bin_lss, bin_leq, bin_gtr, bin_geq, bin_eqlb, bin_neqb, bin_eqlp, bin_eqlp0, bin_neqp, bin_neqp0, bin_eqls, bin_eqls0, un_not, un_neg, len_s, ex_t, cv_i, callV_f, Option.bind_some, Option.map_some, Nat.zero_add, Nat.add_zero, Nat.reduceAdd, Nat.reduceMul, size_newB, size_setB, blk_newB_self, own_newB_self, setB_setB, List.getElem?_toArray, List.getElem?_cons_zero, List.getElem?_cons_succ, List.length_cons, List.length_nil, List.all_cons, List.all_nil, isCell_int, isCell_bool, isCell_ptr, isCell_slice, isCell_func, Bool.and_true, Bool.and_self, and_self, if_true, List.size_toArray, and_true, true_and, Nat.reduceLeDiff, Nat.le_refl, Bool.not_true, Bool.not_false, Bool.true_and, Bool.false_and, Bool.and_false, Int.reduceBNe, Int.reduceBEq, Int.reduceLT, Int.reduceLE, decide_true, decide_false, hb4]
  refine ⟨fun v3 v16 H' => ∃ i : Nat, i ≤ sl.length ∧ v16 = iv i ∧ v3 = iv ((sl.take i).filter (·.2)).length ∧ Ext [] H H' ∧ ∃ c f, own H' H.size = some c ∧ Rows 7 c (2 * room) f ∧ ∀ k (hk : k < ((sl.take i).filter (·.2)).length), f k = slotC ((sl.take i).filter (·.2))[k],
    fun _ v _ => (match v with | Value.int _ i => (sl.length - i).toNat | _ => 0),
    ⟨0, Nat.zero_le _, rfl, rfl, e0, _, _, own_newB_self, Rows.zero (2 * room) (z := slotC (pkt0, false)) rfl, by simp⟩, ?_⟩
  rintro v3 v16 H' ⟨i, hi, rfl, rfl, hE, c, f, hc, hr, hf⟩
  have h' := h.ext hE (by simp) (by simp)
  simp only [bnd_some, brV_t, brV_f, newE_u, pickE_t, pickE_f, nilV_p, faV_p, cells_int, cells_bool, cells_ptr, cells_slice, cells_func, cells_agg, bin_eql, bin_neq, bin_lss, bin_leq, bin_gtr, bin_geq, bin_eqlb, bin_neqb, bin_eqlp, bin_eqlp0, bin_neqp, bin_neqp0, bin_eqls, bin_eqls0, un_not, un_neg, len_s, ex_t, cv_i, callV_f, Option.bind_some, Option.map_some, Nat.zero_add, Nat.add_zero, Nat.reduceAdd, Nat.reduceMul, size_newB, size_setB, blk_newB_self, own_newB_self, setB_setB, List.getElem?_toArray, List.getElem?_cons_zero, List.getElem?_cons_succ, List.length_cons, List.length_nil, List.all_cons, List.all_nil, isCell_int, isCell_bool, isCell_ptr, isCell_slice, isCell_func, Bool.and_true, Bool.and_self, and_self, if_true, List.size_toArray, and_true, true_and, Nat.reduceLeDiff, Nat.le_refl, Bool.not_true, Bool.not_false, Bool.true_and, Bool.false_and, Bool.and_false, Int.reduceBNe, Int.reduceBEq, Int.reduceLT, Int.reduceLE, decide_true, decide_false]
  have w1 : binV .int .add (iv i) (.int .i64 1) = some (iv ((i + 1 : Nat) : Int)) := by rw [bin_addw (by omega)]; rfl
  refine brV_d (fun hlt => ?_) (fun hlt => ?_)
  · have hi' : i < sl.length := by omega
    refine h'.at hi' fun o c2 hc2 _ h6 _ ho => ?_
    have l6 : ldE false 1 (.pointer (some ⟨rb, o + 6, none⟩)) H' = some (.bool sl[i].2) := ld_ptr hc2 h6
    have l7 : ldE true 7 (.pointer (some ⟨rb, o, none⟩)) H' = some (.agg (slotC sl[i])) := by rw [ho]; exact h'.row hi'
    have hfl : ((sl.take i).filter (·.2)).length ≤ i := Nat.le_trans (List.length_filter_le _ _) (by rw [List.length_take]; omega)
    have w2 : binV .int .add (iv ((sl.take i).filter (·.2)).length) (.int .i64 1) = some (iv ((((sl.take i).filter (·.2)).length + 1 : Nat) : Int)) := by rw [bin_addw (by omega)]; rfl
    simp only [bnd_some, brV_t, brV_f, newE_u, pickE_t, pickE_f, nilV_p, faV_p, cells_int, cells_bool, cells_ptr, cells_slice, cells_func, cells_agg, bin_eql, bin_neq, bin_lss, bin_leq, bin_gtr, bin_geq, bin_eqlb, bin_neqb, bin_eqlp, bin_eqlp0, bin_neqp, bin_neqp0, bin_eqls, bin_eqls0, un_not, un_neg, len_s, ex_t, cv_i, callV_f, Option.bind_some, Option.map_some, Nat.zero_add, Nat.add_zero, Nat.reduceAdd, Nat.reduceMul, size_newB, size_setB, blk_newB_self, own_newB_self, setB_setB, List.getElem?_toArray, List.getElem?_cons_zero, List.getElem?_cons_succ, List.length_cons, List.length_nil, List.all_cons, List.all_nil, isCell_int, isCell_bool, isCell_ptr, isCell_slice, isCell_func, Bool.and_true, Bool.and_self, and_self, if_true, List.size_toArray, and_true, true_and, Nat.reduceLeDiff, Nat.le_refl, Bool.not_true, Bool.not_false, Bool.true_and, Bool.false_and, Bool.and_false, Int.reduceBNe, Int.reduceBEq, Int.reduceLT, Int.reduceLE, decide_true, decide_false, l6]
    refine brV_i (fun ht => ?_) (fun ht => ?_)
    · have hx : ixSV 7 (.slice (some ⟨H.size, 0, none⟩) (2 * room) (2 * room)) (iv ((sl.take i).filter (·.2)).length) = some (.pointer (some ⟨H.size, ((sl.take i).filter (·.2)).length * 7, none⟩)) := by
        rw [ixS_u (by omega)]; simp
      have hs := hr.size
      have hrl := row_lt (sz := 7) (show ((sl.take i).filter (·.2)).length < 2 * room by omega)
      have st : stE 7 (.pointer (some ⟨H.size, ((sl.take i).filter (·.2)).length * 7, none⟩)) (.agg (slotC sl[i])) H' = some (setB H' H.size (splice c (((sl.take i).filter (·.2)).length * 7) (slotC sl[i]).toList)) := by
        simp only [stE_p, cells_agg, slotC_s, if_true]
        rw [wrA_u hc (by rw [slotC_l]; omega) slotC_a]
      simp only [bnd_some, brV_t, brV_f, newE_u, pickE_t, pickE_f, nilV_p, faV_p, cells_int, cells_bool, cells_ptr, cells_slice, cells_func, cells_agg, bin_eql, bin_neq, bin_lss, bin_leq, bin_gtr, bin_geq, bin_eqlb, bin_neqb, bin_eqlp, bin_eqlp0, bin_neqp, bin_neqp0, bin_eqls, bin_eqls0, un_not, un_neg, len_s, ex_t, cv_i, callV_f, Option.bind_some, Option.map_some, Nat.zero_add, Nat.add_zero, Nat.reduceAdd, Nat.reduceMul, size_newB, size_setB, blk_newB_self, own_newB_self, setB_setB, List.getElem?_toArray, List.getElem?_cons_zero, List.getElem?_cons_succ, List.length_cons, List.length_nil, List.all_cons, List.all_nil, isCell_int, isCell_bool, isCell_ptr, isCell_slice, isCell_func, Bool.and_true, Bool.and_self, and_self, if_true, List.size_toArray, and_true, true_and, Nat.reduceLeDiff, Nat.le_refl, Bool.not_true, Bool.not_false, Bool.true_and, Bool.false_and, Bool.and_false, Int.reduceBNe, Int.reduceBEq, Int.reduceLT, Int.reduceLE, decide_true, decide_false, l7, hx, st, w1, w2]
      have ef := take_filter_succ hi'
      rw [ht] at ef
      simp only [if_true] at ef
      refine ⟨⟨i + 1, by omega, rfl, by rw [ef]; simp, hE.setB _ _ (Or.inr (Nat.le_refl _)), _, _, own_setB_same hc, hr.set (by omega) slotC_l, fun k hk => ?_⟩, by omega⟩
      by_cases hk2 : k = ((sl.take i).filter (·.2)).length
      · subst hk2; simp [ef]
      · have hk3 : k < ((sl.take i).filter (·.2)).length := by rw [ef] at hk; simp only [List.length_append, List.length_cons, List.length_nil] at hk; omega
        simp only [hk2, if_false]
        rw [hf k hk3]
        congr 1
        simp only [ef]
        rw [List.getElem_append_left hk3]
    · simp only [w1, bnd_some]
      have ef := take_filter_succ hi'
      rw [ht] at ef
      simp only [Bool.false_eq_true, if_false, List.append_nil] at ef
      refine ⟨⟨i + 1, by omega, rfl, by rw [ef], hE, c, f, hc, hr, fun k hk => ?_⟩, by omega⟩
      have hk3 : k < ((sl.take i).filter (·.2)).length := by rw [ef] at hk; exact hk
      rw [hf k hk3]; congr 1; simp only [ef]
  · have hil : i = sl.length := by omega
    subst hil
    simp only [List.take_length] at hf ⊢
    have s2 : stE 1 (.pointer (some ⟨b, 2, none⟩)) (.slice (some ⟨H.size, 0, none⟩) (2 * room) (2 * room)) H' = some (setB H' b (logC room top H.size (2 * room) (2 * room) fr sl.length ma fl el)) := by
      rw [st_ptr h'.log (by rw [logC_s]; omega) rfl rfl, logC_w2]
    have g2 := own_setB_same (c' := logC room top H.size (2 * room) (2 * room) fr sl.length ma fl el) h'.log
    have s3 : stE 1 (.pointer (some ⟨b, 3, none⟩)) (.int .i64 0) (setB H' b (logC room top H.size (2 * room) (2 * room) fr sl.length ma fl el)) = some (setB H' b (logC room top H.size (2 * room) (2 * room) 0 sl.length ma fl el)) := by
      rw [st_ptr g2 (by rw [logC_s]; omega) rfl rfl, logC_w3, setB_setB]
    have g3 := own_setB_same (c' := logC room top H.size (2 * room) (2 * room) 0 sl.length ma fl el) h'.log
    have s4 : stE 1 (.pointer (some ⟨b, 4, none⟩)) (iv (sl.filter (·.2)).length) (setB H' b (logC room top H.size (2 * room) (2 * room) 0 sl.length ma fl el)) = some (setB H' b (logC room top H.size (2 * room) (2 * room) 0 (sl.filter (·.2)).length ma fl el)) := by
      rw [st_ptr g3 (by rw [logC_s]; omega) rfl rfl, logC_w4, setB_setB]
    simp only [bnd_some, brV_t, brV_f, newE_u, pickE_t, pickE_f, nilV_p, faV_p, cells_int, cells_bool, cells_ptr, cells_slice, cells_func, cells_agg, bin_eql, bin_neq, bin_lss, bin_leq, bin_gtr, bin_geq, bin_eqlb, bin_neqb, bin_eqlp, bin_eqlp0, bin_neqp, bin_neqp0, bin_eqls, bin_eqls0, un_not, un_neg, len_s, ex_t, cv_i, callV_f, Option.bind_some, Option.map_some, Nat.zero_add, Nat.add_zero, Nat.reduceAdd, Nat.reduceMul, size_newB, size_setB, blk_newB_self, own_newB_self, setB_setB, List.getElem?_toArray, List.getElem?_cons_zero, List.getElem?_cons_succ, List.length_cons, List.length_nil, List.all_cons, List.all_nil, isCell_int, isCell_bool, isCell_ptr, isCell_slice, isCell_func, Bool.and_true, Bool.and_self, and_self, if_true, List.size_toArray, and_true, true_and, Nat.reduceLeDiff, Nat.le_refl, Bool.not_true, Bool.not_false, Bool.true_and, Bool.false_and, Bool.and_false, Int.reduceBNe, Int.reduceBEq, Int.reduceLT, Int.reduceLE, decide_true, decide_false, s2, s3, s4]
    refine hR _ ((hE.mono (by simp)).setB _ _ (Or.inl (by simp))) ⟨own_setB_same h'.log, by omega, hroom, by omega, Nat.le_trans (List.length_filter_le _ _) hlen, c, f, by rw [own_setB_ne (by omega)]; exact hc, hr, Nat.le_refl _, fun k hk => ?_⟩
    have : k < 2 * room := Nat.lt_of_lt_of_le hk (Nat.le_trans (List.length_filter_le _ _) hlen)
    rw [Nat.zero_add, Nat.mod_eq_of_lt this]; exact hf k hk
end Go.Hc

/- Lists of ranges: slices.Equal, Clone, Collect. -/
import Derived.Test.YtbchcnmghcmaoaaS04B
import Derived.Test.YtbchcnmghcmaoaaHcS
set_option linter.unusedSimpArgs false
set_option linter.unusedVariables false
namespace Go.Hc
open Go

theorem rng_beq {a b : Rng} : binV (.agg [true, true]) .neq (.agg (rngC a)) (.agg (rngC b)) = some (.bool (!(decide (a = b)))) := by
  have : decide (a = b) = ((a.1 == b.1) && (a.2 == b.2)) := by
    rw [Bool.eq_iff_iff]; simp [Prod.ext_iff]
  simp only [binV, eqV, notO, rngC, cellsEq, cellEq, this, if_true, Bool.and_true]
/-- AppendSeq, from nothing on: the list. -/
theorem AppendSeq_ev {H : Heap} {seq : Value} {l : List Rng} {R : Value → Heap → Prop} {U : List Nat} (hy : Yields P seq H U l (fun x => [.agg (rngC x)])) (hU : ∀ b ∈ U, b < H.size) (hs : l.length ≤ 1000000)
    (hR : ∀ v' S' H', Ext [] H H' → (∀ b ∈ S', H.size ≤ b) → OwnL rngE H' v' S' l → R v' H') : EvF P N.slices_AppendSeq_Range #[.slice none 0 0, seq] H R := by
  refine z78_ev _ _ _ _ ?_
  simp only [z78_g13, z78_g14, z78_g19, slices_AppendSeq_Range]
  try simp only [bnd_some, brV_t, brV_f, brG_t, brG_f, newE_u, pickE_t, pickE_f, nilV_p, faV_p, cells_int, cells_bool, cells_ptr, cells_slice, cells_func, cells_agg, bin_eql, bin_neq, bin_lss, bin_leq, bin_gtr, bin_geq, bin_eqlb, bin_neqb, bin_eqlp, bin_eqlp0, bin_neqp, bin_neqp0, bin_eqls, bin_eqls0, un_not, un_neg, len_s, cap_s, ex_t, cv_i, callV_f, Option.bind_some, Option.map_some, Nat.zero_add, Nat.add_zero, Nat.reduceAdd, Nat.reduceMul, size_newB, size_setB, blk_newB_self, own_newB_self, setB_setB, List.getElem?_toArray, List.getElem?_cons_zero, List.getElem?_cons_succ, List.length_cons, List.length_nil, List.all_cons, List.all_nil, isCell_int, isCell_bool, isCell_ptr, isCell_slice, isCell_func, Bool.and_true, Bool.and_self, and_self, if_true, List.size_toArray, and_true, true_and, Nat.reduceLeDiff, Nat.le_refl, Bool.not_true, Bool.not_false, Bool.true_and, Bool.false_and, Bool.and_false, Int.reduceBNe, Int.reduceBEq, Int.reduceLT, Int.reduceLE, decide_true, decide_false]
  intro fn fr hfr hx2
  have e0 : ∀ t, Ext [] H (newB H t #[.slice none 0 0]) := fun t => (Ext.refl _ _).newB t _
  refine callL_mono (fun _ H2 h => ?_) (hy _ _ (fun k K => Ext [] H K ∧ K.arr[H.size + 1 + 1]? = some (.loop (z78_L fn fr (H.size + 1))) ∧ K.arr[H.size + 1]? = some (.deferred (some [])) ∧
      ∃ v T, own K H.size = some #[v] ∧ OwnL rngE K v T (l.take k) ∧ ∀ t ∈ T, H.size < t) ?_ (fun k K h b hb => h.1.same b (hU b hb) (by simp)) (fun k hk K h => ?_))
  · obtain ⟨he, h1, h2, v, T, h3, h4, h5⟩ := h
    have hne1 : H.size ≠ H.size + 1 + 1 := by omega
    have hne2 : H.size + 1 ≠ H.size + 1 + 1 := by omega
    refine ⟨h1, ?_⟩
    have e1 : Ext [] H (setO H2 (H.size + 1 + 1) (.loop (done (z78_L fn fr (H.size + 1))))) := he.setO _ _ (Or.inr (by omega))
    have e2 := e1.setO (H.size + 1) (.deferred none) (Or.inr (by omega))
    simp only [ldE_f, blk_setO_ne hne1, own_blk h3, bnd_some, brV_t, brV_f, brG_t, brG_f, newE_u, pickE_t, pickE_f, nilV_p, faV_p, cells_int, cells_bool, cells_ptr, cells_slice, cells_func, cells_agg, bin_eql, bin_neq, bin_lss, bin_leq, bin_gtr, bin_geq, bin_eqlb, bin_neqb, bin_eqlp, bin_eqlp0, bin_neqp, bin_neqp0, bin_eqls, bin_eqls0, un_not, un_neg, len_s, cap_s, ex_t, cv_i, callV_f, Option.bind_some, Option.map_some, Nat.zero_add, Nat.add_zero, Nat.reduceAdd, Nat.reduceMul, size_newB, size_setB, blk_newB_self, own_newB_self, setB_setB, List.getElem?_toArray, List.getElem?_cons_zero, List.getElem?_cons_succ, List.length_cons, List.length_nil, List.all_cons, List.all_nil, isCell_int, isCell_bool, isCell_ptr, isCell_slice, isCell_func, Bool.and_true, Bool.and_self, and_self, if_true, List.size_toArray, and_true, true_and, Nat.reduceLeDiff, Nat.le_refl, Bool.not_true, Bool.not_false, Bool.true_and, Bool.false_and, Bool.and_false, Int.reduceBNe, Int.reduceBEq, Int.reduceLT, Int.reduceLE, decide_true, decide_false]
    refine ⟨by rw [arr_setO_ne hne2]; exact h2, hR v T _ e2 (fun b hb => by have := h5 b hb; omega) ?_⟩
    rw [List.take_length] at h4
    have p1 : ∀ b ∈ T, b ≠ H.size + 1 + 1 ∧ b ≠ H.size + 1 := fun b hb => by
      obtain ⟨c, hc⟩ := h4.has b hb
      exact ⟨own_ne hc h1, own_ned hc h2⟩
    have h6 := h4.ext ((Ext.refl [H.size + 1 + 1] H2).setO (H.size + 1 + 1) (.loop (done (z78_L fn fr (H.size + 1)))) (Or.inl (by simp))) (fun b hb => by simp; exact (p1 b hb).1)
    exact h6.ext ((Ext.refl [H.size + 1] _).setO (H.size + 1) (.deferred none) (Or.inl (by simp))) (fun b hb => by simp; exact (p1 b hb).2)
  · refine ⟨((e0 _).pushO _).pushO _, ?_, ?_, .slice none 0 0, [], ?_, .nil, by simp⟩
    · exact arr_pushO_at (by rw [size_pushO, size_newB])
    · exact ((Ext.refl [] _).pushO _).arr (arr_pushO_at (by rw [size_newB])) (by simp)
    · exact (((Ext.refl [] _).pushO _).pushO _).own own_newB_self (by simp)
  · obtain ⟨he, h1, h2, v, T, h3, h4, h5⟩ := h
    refine callV_y (z78_y fn _ fr hfr _ _ K _ h1 ?_)
    rw [hx2]
    have hK := he.size
    have hlp := arr_lt h1
    have n1 : H.size ≠ K.size := by have := own_lt h3; omega
    have n2 : K.size ≠ H.size + 1 + 1 := by omega
    have n3 : H.size ≠ H.size + 1 + 1 := by omega
    have hl2 : (List.take k l).length = k := by rw [List.length_take]; omega
    have hloc : splice #[Value.int .i64 0, Value.int .i64 0] 0 (rngC l[k]).toList = rngC l[k] := rfl
    have hz : (rngC l[k]).size = 2 := rfl
    have hz2 : (rngC l[k]).toList.length = 2 := rfl
    have hz3 : (rngC l[k]).toList.all isCell = true := by simp [rngC, isCell]
    have hz4 : (#[Value.int .i64 0, Value.int .i64 0] : Array Value).size = 2 := rfl
    have hz5 : getC (rngC l[k]) 0 2 = some (rngC l[k]) := rfl
    simp only [z78_r, z78_g18, z78_s15, z78_g16]
    try simp only [bnd_some, brV_t, brV_f, brG_t, brG_f, newE_u, pickE_t, pickE_f, nilV_p, faV_p, ldE_f, ldE_t, rdA_u, stE_p, cells_int, cells_bool, cells_ptr, cells_slice, cells_func, cells_agg, bin_add, bin_sub, bin_mul, bin_eql, bin_neq, bin_lss, bin_leq, bin_gtr, bin_geq, bin_eqlb, bin_neqb, bin_eqlp, bin_eqlp0, bin_neqp, bin_neqp0, bin_eqls, bin_eqls0, un_not, un_neg, len_s, cap_s, ex_t, cv_i, callV_f, Option.bind_some, Option.map_some, Nat.zero_add, Nat.add_zero, Nat.reduceAdd, Nat.reduceMul, size_newB, size_setB, blk_newB_self, own_newB_self, wrA_b, own_setB_m, blk_setB_m, setB_setB, List.getElem?_toArray, List.getElem?_cons_zero, List.getElem?_cons_succ, List.length_cons, List.length_nil, List.all_cons, List.all_nil, isCell_int, isCell_bool, isCell_ptr, isCell_slice, isCell_func, Bool.and_true, Bool.and_self, and_self, if_true, List.size_toArray, and_true, true_and, Nat.reduceLeDiff, Nat.le_refl, Bool.not_true, Bool.not_false, Bool.true_and, Bool.false_and, Bool.and_false, Int.reduceBNe, Int.reduceBEq, Int.reduceLT, Int.reduceLE, decide_true, decide_false, hloc, hz, hz2, hz3, hz4, hz5, blk_setO_ne n2, blk_setO_ne n3, blk_newB_ne n1, own_newB_ne n1, blk_setB_ne n1, own_blk h3]
    have hd1 := arr_lt h2
    have en : ∀ t c c', Ext [] K (setB (newB K t c) K.size c') := fun t c c' => ((Ext.refl _ _).newB t c).setB _ _ (Or.inr (Nat.le_refl _))
    refine ⟨(en _ _ _).arr h1 (by simp), ?_⟩
    have e2 : ∀ t c c' o, Ext [H.size + 1 + 1] K (setO (setB (newB K t c) K.size c') (H.size + 1 + 1) o) := fun t c c' o => ((en t c c').mono (by simp)).setO _ _ (Or.inl (by simp))
    have hT : ∀ b ∈ T, b ≠ H.size + 1 + 1 ∧ b ≠ H.size + 1 := fun b hb => by
      obtain ⟨c, hc⟩ := h4.has b hb
      exact ⟨own_ne hc h1, own_ned hc h2⟩
    have hlp2 : ∀ t c c' o, (setO (setB (newB K t c) K.size c') (H.size + 1 + 1) o).arr[H.size + 1 + 1]? = some o := fun t c c' o => arr_setO_self (by rw [size_setB, size_newB]; omega)
    refine bslE_1 (E := rngE) (a := l[k]) rfl (fun H4 z4 e4 o4 => ?_) (by decide)
    have e24 := (e2 _ _ _ _).thru e4 (by simp)
    have o5 := h4.ext e24 (fun b hb => by simp; exact (hT b hb).1)
    refine appE_l (E := rngE) o5 o4.show (by simp; omega) (by decide) (by simp; omega) fun v' S' H5 e5 hS' o6 => ?_
    have hlt := own_lt h3
    have hszz : ∀ t c c' o, (setO (setB (newB K t c) K.size c') (H.size + 1 + 1) o).size = K.size + 1 := fun t c c' o => by rw [size_setO, size_setB, size_newB]
    have o3 : own H5 H.size = some #[v] := e5.own (e24.own h3 (by simp; omega)) (fun hm => by have := h5 _ hm; omega)
    have hS2 : ∀ b ∈ S', H.size < b ∧ b ≠ H.size + 1 + 1 := fun b hb => by
      rcases hS' b hb with h | h
      · exact ⟨h5 b h, (hT b h).1⟩
      · rw [z4, hszz] at h; omega
    have hs1 : H.size ∉ S' := fun hm => by have := hS2 _ hm; omega
    obtain ⟨c1, c2⟩ := o6.cell
    rw [c1, o3]
    have hlpT : H.size + 1 + 1 ∉ T := fun hm => (hT _ hm).1 rfl
    have h5T : H.size + 1 ∉ T := fun hm => (hT _ hm).2 rfl
    have a1 : H5.arr[H.size + 1 + 1]? = some (.loop (busy (z78_L fn fr (H.size + 1)))) := e5.arr (e4.arr (hlp2 _ _ _ _) (by simp)) hlpT
    have a2 : H5.arr[H.size + 1]? = some (.deferred (some [])) := e5.arr (e24.arr h2 (by simp)) h5T
    try simp only [bnd_some, brV_t, brV_f, brG_t, brG_f, newE_u, pickE_t, pickE_f, nilV_p, faV_p, cells_int, cells_bool, cells_ptr, cells_slice, cells_func, cells_agg, bin_eql, bin_neq, bin_lss, bin_leq, bin_gtr, bin_geq, bin_eqlb, bin_neqb, bin_eqlp, bin_eqlp0, bin_neqp, bin_neqp0, bin_eqls, bin_eqls0, un_not, un_neg, len_s, cap_s, ex_t, cv_i, callV_f, Option.bind_some, Option.map_some, Nat.zero_add, Nat.add_zero, Nat.reduceAdd, Nat.reduceMul, size_newB, size_setB, blk_newB_self, own_newB_self, setB_setB, List.getElem?_toArray, List.getElem?_cons_zero, List.getElem?_cons_succ, List.length_cons, List.length_nil, List.all_cons, List.all_nil, isCell_int, isCell_bool, isCell_ptr, isCell_slice, isCell_func, Bool.and_true, Bool.and_self, and_self, if_true, List.size_toArray, and_true, true_and, Nat.reduceLeDiff, Nat.le_refl, Bool.not_true, Bool.not_false, Bool.true_and, Bool.false_and, Bool.and_false, Int.reduceBNe, Int.reduceBEq, Int.reduceLT, Int.reduceLE, decide_true, decide_false, c2, List.length_singleton]
    refine ⟨((Ext.refl [H.size] H5).setB H.size _ (Or.inl (by simp))).arr a1 (by simp; omega), ?_, arr_setO_self (by rw [size_setB]; exact arr_lt a1), ?_, v', S', ?_, ?_, fun b hb => (hS2 b hb).1⟩
    · exact ((((he.thru e24 (by simp; omega)).thru e5 (fun b hb => Or.inr (by have := h5 b hb; omega)))).setB H.size _ (Or.inr (Nat.le_refl _))).setO _ _ (Or.inr (by omega))
    · rw [arr_setO_ne (by omega)]
      exact ((Ext.refl [H.size] H5).setB H.size _ (Or.inl (by simp))).arr a2 (by simp)
    · rw [own_setO_ne n3, own_setB_same o3]; rfl
    · have q1 := o6.ext ((Ext.refl [H.size] H5).setB H.size (splice #[v] 0 [v']) (Or.inl (by simp))) (fun b hb => by simp; exact fun e => hs1 (e ▸ hb))
      have q2 := q1.ext ((Ext.refl [H.size + 1 + 1] _).setO (H.size + 1 + 1) (.loop (z78_L fn fr (H.size + 1))) (Or.inl (by simp))) (fun b hb => by simp; exact (hS2 b hb).2)
      have : List.take (k + 1) l = List.take k l ++ [l[k]] := by rw [List.take_add_one, List.getElem?_eq_getElem hk]; rfl
      rw [this]; exact q2
theorem Collect_ev {H : Heap} {seq : Value} {l : List Rng} {R : Value → Heap → Prop} {U : List Nat} (hy : Yields P seq H U l (fun x => [.agg (rngC x)])) (hU : ∀ b ∈ U, b < H.size) (hs : l.length ≤ 1000000)
    (hR : ∀ v' S' H', Ext [] H H' → (∀ b ∈ S', H.size ≤ b) → OwnL rngE H' v' S' l → R v' H') : EvF P N.slices_Collect_Range #[seq] H R := by
  refine z68_ev _ _ _ ?_
  simp only [z68_g5, z68_g6, slices_Collect_Range]
  exact AppendSeq_ev hy hU hs hR
end Go.Hc

/- The reference's log. -/
import Derived.Test.YtchdnhbkjfdnmaaS06Sums
set_option linter.unusedSimpArgs false
set_option linter.unusedVariables false
namespace Go.Hc
open Go

def refC (room top : Int) (v : Value) : Array Value := #[iv room, iv top, v]
theorem refC_w1 {room top t : Int} {v : Value} : splice (refC room top v) 1 [iv t] = refC room t v := rfl
theorem refC_w2 {room top : Int} {v u : Value} : splice (refC room top v) 2 [u] = refC room top u := rfl
def refA (m : Nat) (room top : Int) (L : List Pkt) : Asr where
  holds H T := ∃ v S, T = m :: S ∧ own H m = some (refC room top v) ∧ OwnL pktE H v S L ∧ m ∉ S
  stable := fun {H H' T} ⟨v, S, a, h, ho, hm⟩ e => by
    subst a
    exact ⟨v, S, rfl, own_same h (e _ (by simp)), (lstA pktE v L).stable ho fun x hx => e x (by simp [hx]), hm⟩
  lt := fun {H T} ⟨v, S, a, h, ho, hm⟩ y hy => by
    subst a
    rcases List.mem_cons.1 hy with rfl | hy
    · exact own_lt h
    · exact ho.lt y hy
section
variable {H0 H : Heap} {Qs : List Asr} {m : Nat} {room top : Int} {L : List Pkt} {R : Value → Heap → Prop}
theorem Sep.ref (h : Sep H0 H (refA m room top L :: Qs)) : ∃ v, ldE false 1 (ptr m) H = some (iv room) ∧ ldE false 1 (.pointer (some ⟨m, 1, none⟩)) H = some (iv top) ∧ ldE false 1 (.pointer (some ⟨m, 2, none⟩)) H = some v ∧ ShowL pktE H v L := by
  obtain ⟨T, ⟨v, S, rfl, ho, hl, hm⟩, _⟩ := h.get
  exact ⟨v, ld_ptr (own_blk ho) rfl, ld_ptr (own_blk ho) rfl, ld_ptr (own_blk ho) rfl, hl.show⟩
theorem Sep.refTop {t : Int} (h : Sep H0 H (refA m room top L :: Qs)) : ∃ H', stE 1 (.pointer (some ⟨m, 1, none⟩)) (iv t) H = some H' ∧ Sep H0 H' (refA m room t L :: Qs) := by
  obtain ⟨T, ⟨v, S, rfl, ho, hl, hm⟩, hn⟩ := h.get
  refine ⟨_, st_ptr ho (by simp [refC]) rfl rfl, ?_⟩
  rw [refC_w1]
  refine hn (refA m room t L) _ (m :: S) ((Ext.refl _ _).setB _ _ (Or.inl (by simp))) ⟨v, S, rfl, own_setB_same ho, ?_, hm⟩ fun x hx => Or.inl hx
  exact hl.ext ((Ext.refl [m] _).setB _ _ (Or.inl (by simp))) fun x hx hx' => by simp at hx'; subst hx'; exact hm hx
theorem Sep.refNil (h : Sep H0 H (refA m room top L :: Qs)) : ∃ H', stE 1 (.pointer (some ⟨m, 2, none⟩)) (.slice none 0 0) H = some H' ∧ Sep H0 H' (refA m room top [] :: Qs) := by
  obtain ⟨T, ⟨v, S, rfl, ho, hl, hm⟩, hn⟩ := h.get
  refine ⟨_, st_ptr ho (by simp [refC]) rfl rfl, ?_⟩
  rw [refC_w2]
  exact hn (refA m room top []) _ [m] ((Ext.refl _ _).setB _ _ (Or.inl (by simp))) ⟨_, [], rfl, own_setB_same ho, .nil, by simp⟩ fun x hx => Or.inl (by simp at hx; simp [hx])
theorem Sep.refSet {v' : Value} {L' : List Pkt} (h : Sep H0 H (lstA pktE v' L' :: refA m room top L :: Qs)) : ∃ H', stE 1 (.pointer (some ⟨m, 2, none⟩)) v' H = some H' ∧ Sep H0 H' (refA m room top L' :: Qs) := by
  obtain ⟨e, U, ⟨T, V, rfl, hq, ⟨T2, V2, rfl, ⟨v, S, rfl, ho, hl, hm⟩, hs, hd2⟩, hd⟩, hu⟩ := h
  replace hq : OwnL pktE H v' T L' := hq
  have hmT : m ∉ T := fun hx => hd m hx (by simp)
  have hmV : m ∉ V2 := hd2 m (by simp)
  refine ⟨_, st_ptr ho (by simp [refC]) hq.cell.1 hq.cell.2, ?_⟩
  rw [refC_w2]
  have he : Ext [m] H (setB H m (refC room top v')) := (Ext.refl _ _).setB _ _ (Or.inl (by simp))
  refine ⟨e.thru he (by simp; exact hu m (by simp)), (m :: T) ++ V2, ⟨m :: T, V2, rfl, ⟨v', T, rfl, own_setB_same ho, hq.ext he (fun x hx hx' => by simp at hx'; subst hx'; exact hmT hx), hmT⟩, hs.stable fun x hx => he.same x (hs.lt x hx) (by simp; rintro rfl; exact hmV hx), fun x hx hx2 => ?_⟩, fun x hx => hu x ?_⟩
  · rcases List.mem_cons.1 hx with rfl | hx
    · exact hmV hx2
    · exact hd x hx (by simp [hx2])
  · simp only [List.cons_append, List.mem_cons, List.mem_append] at hx ⊢
    rcases hx with rfl | hx | hx
    · exact Or.inr (Or.inl rfl)
    · exact Or.inl hx
    · exact Or.inr (Or.inr (Or.inr hx))
theorem Sep.newL (h : Sep H0 H Qs) : Sep H0 H (lstA pktE (.slice none 0 0) [] :: Qs) := h.new (Ext.refl _ _) (Q := lstA pktE (.slice none 0 0) []) (T := []) OwnL.nil (by simp)

theorem RNew_sep {r : Int} (h : Sep H0 H Qs) (hbad : ¬ (1 ≤ r ∧ r ≤ 256) → R (.tuple #[.pointer none, iv 2]) H)
    (hok : ∀ (m : Nat) H', 1 ≤ r ∧ r ≤ 256 → Sep H0 H' (refA m r (-1) [] :: Qs) → R (.tuple #[ptr m, iv 0]) H') : EvF P N.sounderref06_New #[iv r] H R := by
  refine sounderref06_New_ev _ _ _ ?_
  simp only [sounderref06_New_g11, sounderref06_New_g12, sounderref06_New_g13, sounderref06_New_g14, sounderref06_New]
  have hb : buildV #[(.int .i64 0), (.int .i64 0), (.slice none 0 0)] (places [(0, 1), (1, 1), (2, 1)]) [(0, iv r), (1, (.int .i64 (-1)))] = some (.agg (refC r (-1) (.slice none 0 0))) := rfl
  simp only [bnd_some, brV_t, brV_f, newE_u, pickE_t, pickE_f, nilV_p, faV_p, cells_int, cells_bool, cells_ptr, cells_slice, cells_func, cells_agg, bin_eql, bin_neq, bin_lss, bin_leq, bin_gtr, bin_geq, bin_eqlb, bin_neqb, bin_eqlp, bin_eqlp0, bin_neqp, bin_neqp0, bin_eqls, bin_eqls0, un_not, un_neg, len_s, ex_t, cv_i, callV_f, Option.bind_some, Option.map_some, Nat.zero_add, Nat.add_zero, Nat.reduceAdd, Nat.reduceMul, size_newB, size_setB, blk_newB_self, own_newB_self, setB_setB, List.getElem?_toArray, List.getElem?_cons_zero, List.getElem?_cons_succ, List.length_cons, List.length_nil, List.all_cons, List.all_nil, isCell_int, isCell_bool, isCell_ptr, isCell_slice, isCell_func, Bool.and_true, Bool.and_self, and_self, if_true, List.size_toArray, and_true, true_and, Nat.reduceLeDiff, Nat.le_refl, Bool.not_true, Bool.not_false, Bool.true_and, Bool.false_and, Bool.and_false, Int.reduceBNe, Int.reduceBEq, Int.reduceLT, Int.reduceLE, decide_true, decide_false, hb]
  have good : 1 ≤ r ∧ r ≤ 256 → R (.tuple #[ptr H.size, iv 0]) (newB H 73 (refC r (-1) (.slice none 0 0))) := fun hr =>
    hok H.size _ hr (h.new ((Ext.refl _ _).newB _ _) (Q := refA H.size r (-1) []) (T := [H.size]) ⟨_, [], rfl, own_newB_self, .nil, by simp⟩ (by simp))
  refine brV_d (fun h1 => ?_) (fun h1 => ?_)
  · exact hbad (by omega)
  · refine brV_d (fun h2 => ?_) (fun h2 => ?_)
    · exact hbad (by omega)
    · exact good (by omega)
theorem RMay_ev {p : Pkt} (hR : ∀ H', Ext [] H H' → R (.bool (decide (May p))) H') : EvF P N.sounderref06_May #[pv p] H R := by
  refine sounderref06_May_ev _ _ _ ?_
  have hR' := hR _ ((Ext.refl _ H).newB 30 (pktC p))
  have ho : blk (newB H 30 (pktC p)) H.size = some (pktC p) := blk_newB_self
  have l0 : ldE false 1 (ptr H.size) (newB H 30 (pktC p)) = some (iv p.num) := ld_ptr ho pktC_0
  have l1 : ldE false 1 (.pointer (some ⟨H.size, 1, none⟩)) (newB H 30 (pktC p)) = some (iv p.time) := ld_ptr ho pktC_1
  have l2 : ldE false 1 (.pointer (some ⟨H.size, 2, none⟩)) (newB H 30 (pktC p)) = some (iv p.size) := ld_ptr ho pktC_2
  have no : ¬ May p → R (.bool false) (newB H 30 (pktC p)) := fun hm => by simpa [hm] using hR'
  simp only [sounderref06_May_g5, sounderref06_May_g6, sounderref06_May]
  try simp only [bnd_some, brV_t, brV_f, newE_u, pickE_t, pickE_f, nilV_p, faV_p, cells_int, cells_bool, cells_ptr, cells_slice, cells_func, cells_agg, bin_eql, bin_neq, bin_lss, bin_leq, bin_gtr, bin_geq, bin_eqlb, bin_neqb, bin_eqlp, bin_eqlp0, bin_neqp, bin_neqp0, bin_eqls, bin_eqls0, un_not, un_neg, len_s, ex_t, cv_i, callV_f, Option.bind_some, Option.map_some, Nat.zero_add, Nat.add_zero, Nat.reduceAdd, Nat.reduceMul, size_newB, size_setB, blk_newB_self, own_newB_self, setB_setB, List.getElem?_toArray, List.getElem?_cons_zero, List.getElem?_cons_succ, List.length_cons, List.length_nil, List.all_cons, List.all_nil, isCell_int, isCell_bool, isCell_ptr, isCell_slice, isCell_func, Bool.and_true, Bool.and_self, and_self, if_true, List.size_toArray, and_true, true_and, Nat.reduceLeDiff, Nat.le_refl, Bool.not_true, Bool.not_false, Bool.true_and, Bool.false_and, Bool.and_false, Int.reduceBNe, Int.reduceBEq, Int.reduceLT, Int.reduceLE, decide_true, decide_false, l0]
  refine brV_d (fun h1 => ?_) (fun h1 => no fun hm => h1 hm.1)
  try simp only [bnd_some, brV_t, brV_f, newE_u, pickE_t, pickE_f, nilV_p, faV_p, cells_int, cells_bool, cells_ptr, cells_slice, cells_func, cells_agg, bin_eql, bin_neq, bin_lss, bin_leq, bin_gtr, bin_geq, bin_eqlb, bin_neqb, bin_eqlp, bin_eqlp0, bin_neqp, bin_neqp0, bin_eqls, bin_eqls0, un_not, un_neg, len_s, ex_t, cv_i, callV_f, Option.bind_some, Option.map_some, Nat.zero_add, Nat.add_zero, Nat.reduceAdd, Nat.reduceMul, size_newB, size_setB, blk_newB_self, own_newB_self, setB_setB, List.getElem?_toArray, List.getElem?_cons_zero, List.getElem?_cons_succ, List.length_cons, List.length_nil, List.all_cons, List.all_nil, isCell_int, isCell_bool, isCell_ptr, isCell_slice, isCell_func, Bool.and_true, Bool.and_self, and_self, if_true, List.size_toArray, and_true, true_and, Nat.reduceLeDiff, Nat.le_refl, Bool.not_true, Bool.not_false, Bool.true_and, Bool.false_and, Bool.and_false, Int.reduceBNe, Int.reduceBEq, Int.reduceLT, Int.reduceLE, decide_true, decide_false, l0]
  refine brV_d (fun h2 => ?_) (fun h2 => no fun hm => h2 hm.2.1)
  try simp only [bnd_some, brV_t, brV_f, newE_u, pickE_t, pickE_f, nilV_p, faV_p, cells_int, cells_bool, cells_ptr, cells_slice, cells_func, cells_agg, bin_eql, bin_neq, bin_lss, bin_leq, bin_gtr, bin_geq, bin_eqlb, bin_neqb, bin_eqlp, bin_eqlp0, bin_neqp, bin_neqp0, bin_eqls, bin_eqls0, un_not, un_neg, len_s, ex_t, cv_i, callV_f, Option.bind_some, Option.map_some, Nat.zero_add, Nat.add_zero, Nat.reduceAdd, Nat.reduceMul, size_newB, size_setB, blk_newB_self, own_newB_self, setB_setB, List.getElem?_toArray, List.getElem?_cons_zero, List.getElem?_cons_succ, List.length_cons, List.length_nil, List.all_cons, List.all_nil, isCell_int, isCell_bool, isCell_ptr, isCell_slice, isCell_func, Bool.and_true, Bool.and_self, and_self, if_true, List.size_toArray, and_true, true_and, Nat.reduceLeDiff, Nat.le_refl, Bool.not_true, Bool.not_false, Bool.true_and, Bool.false_and, Bool.and_false, Int.reduceBNe, Int.reduceBEq, Int.reduceLT, Int.reduceLE, decide_true, decide_false, l1]
  refine brV_d (fun h3 => ?_) (fun h3 => no fun hm => h3 hm.2.2.1)
  try simp only [bnd_some, brV_t, brV_f, newE_u, pickE_t, pickE_f, nilV_p, faV_p, cells_int, cells_bool, cells_ptr, cells_slice, cells_func, cells_agg, bin_eql, bin_neq, bin_lss, bin_leq, bin_gtr, bin_geq, bin_eqlb, bin_neqb, bin_eqlp, bin_eqlp0, bin_neqp, bin_neqp0, bin_eqls, bin_eqls0, un_not, un_neg, len_s, ex_t, cv_i, callV_f, Option.bind_some, Option.map_some, Nat.zero_add, Nat.add_zero, Nat.reduceAdd, Nat.reduceMul, size_newB, size_setB, blk_newB_self, own_newB_self, setB_setB, List.getElem?_toArray, List.getElem?_cons_zero, List.getElem?_cons_succ, List.length_cons, List.length_nil, List.all_cons, List.all_nil, isCell_int, isCell_bool, isCell_ptr, isCell_slice, isCell_func, Bool.and_true, Bool.and_self, and_self, if_true, List.size_toArray, and_true, true_and, Nat.reduceLeDiff, Nat.le_refl, Bool.not_true, Bool.not_false, Bool.true_and, Bool.false_and, Bool.and_false, Int.reduceBNe, Int.reduceBEq, Int.reduceLT, Int.reduceLE, decide_true, decide_false, l1]
  refine brV_d (fun h4 => ?_) (fun h4 => no fun hm => h4 hm.2.2.2.1)
  try simp only [bnd_some, brV_t, brV_f, newE_u, pickE_t, pickE_f, nilV_p, faV_p, cells_int, cells_bool, cells_ptr, cells_slice, cells_func, cells_agg, bin_eql, bin_neq, bin_lss, bin_leq, bin_gtr, bin_geq, bin_eqlb, bin_neqb, bin_eqlp, bin_eqlp0, bin_neqp, bin_neqp0, bin_eqls, bin_eqls0, un_not, un_neg, len_s, ex_t, cv_i, callV_f, Option.bind_some, Option.map_some, Nat.zero_add, Nat.add_zero, Nat.reduceAdd, Nat.reduceMul, size_newB, size_setB, blk_newB_self, own_newB_self, setB_setB, List.getElem?_toArray, List.getElem?_cons_zero, List.getElem?_cons_succ, List.length_cons, List.length_nil, List.all_cons, List.all_nil, isCell_int, isCell_bool, isCell_ptr, isCell_slice, isCell_func, Bool.and_true, Bool.and_self, and_self, if_true, List.size_toArray, and_true, true_and, Nat.reduceLeDiff, Nat.le_refl, Bool.not_true, Bool.not_false, Bool.true_and, Bool.false_and, Bool.and_false, Int.reduceBNe, Int.reduceBEq, Int.reduceLT, Int.reduceLE, decide_true, decide_false, l2]
  refine brV_d (fun h5 => ?_) (fun h5 => no fun hm => h5 hm.2.2.2.2.1)
  try simp only [bnd_some, brV_t, brV_f, newE_u, pickE_t, pickE_f, nilV_p, faV_p, cells_int, cells_bool, cells_ptr, cells_slice, cells_func, cells_agg, bin_eql, bin_neq, bin_lss, bin_leq, bin_gtr, bin_geq, bin_eqlb, bin_neqb, bin_eqlp, bin_eqlp0, bin_neqp, bin_neqp0, bin_eqls, bin_eqls0, un_not, un_neg, len_s, ex_t, cv_i, callV_f, Option.bind_some, Option.map_some, Nat.zero_add, Nat.add_zero, Nat.reduceAdd, Nat.reduceMul, size_newB, size_setB, blk_newB_self, own_newB_self, setB_setB, List.getElem?_toArray, List.getElem?_cons_zero, List.getElem?_cons_succ, List.length_cons, List.length_nil, List.all_cons, List.all_nil, isCell_int, isCell_bool, isCell_ptr, isCell_slice, isCell_func, Bool.and_true, Bool.and_self, and_self, if_true, List.size_toArray, and_true, true_and, Nat.reduceLeDiff, Nat.le_refl, Bool.not_true, Bool.not_false, Bool.true_and, Bool.false_and, Bool.and_false, Int.reduceBNe, Int.reduceBEq, Int.reduceLT, Int.reduceLE, decide_true, decide_false, l2]
  by_cases h6 : p.size ≤ 65535
  · have hm : May p := ⟨h1, h2, h3, h4, h5, h6⟩
    simpa [hm, h6] using hR'
  · have hm : ¬ May p := fun hm => h6 hm.2.2.2.2.2
    simpa [hm, h6] using hR'
theorem RAll_sep (h : Sep H0 H (refA m room top L :: Qs)) (hL : L.length ≤ 300) (hR : ∀ H' v, Sep H0 H' (lstA pktE v L :: refA m room top L :: Qs) → R v H') : EvF P N.sounderref06_Log_All #[ptr m] H R := by
  refine sounderref06_Log_All_ev _ _ _ ?_
  simp only [sounderref06_Log_All_g7, sounderref06_Log_All_g8, sounderref06_Log_All_g9, sounderref06_Log_All]
  obtain ⟨v, l0, l1, l2, hsh⟩ := h.ref
  simp only [bnd_some, brV_t, brV_f, newE_u, pickE_t, pickE_f, nilV_p, faV_p, cells_int, cells_bool, cells_ptr, cells_slice, cells_func, cells_agg, bin_eql, bin_neq, bin_lss, bin_leq, bin_gtr, bin_geq, bin_eqlb, bin_neqb, bin_eqlp, bin_eqlp0, bin_neqp, bin_neqp0, bin_eqls, bin_eqls0, un_not, un_neg, len_s, ex_t, cv_i, callV_f, Option.bind_some, Option.map_some, Nat.zero_add, Nat.add_zero, Nat.reduceAdd, Nat.reduceMul, size_newB, size_setB, blk_newB_self, own_newB_self, setB_setB, List.getElem?_toArray, List.getElem?_cons_zero, List.getElem?_cons_succ, List.length_cons, List.length_nil, List.all_cons, List.all_nil, isCell_int, isCell_bool, isCell_ptr, isCell_slice, isCell_func, Bool.and_true, Bool.and_self, and_self, if_true, List.size_toArray, and_true, true_and, Nat.reduceLeDiff, Nat.le_refl, Bool.not_true, Bool.not_false, Bool.true_and, Bool.false_and, Bool.and_false, Int.reduceBNe, Int.reduceBEq, Int.reduceLT, Int.reduceLE, decide_true, decide_false, l2]
  refine appE_sep (E := pktE) (l := []) h.newL hsh (by simp; omega) (by decide) (by simp; omega) fun H' v' h' => ?_
  exact hR H' v' h'
theorem RPut_sep {p : Pkt} (h : Sep H0 H (refA m room top L :: Qs)) (hr : 1 ≤ room ∧ room ≤ 256) (hL : L.length ≤ 256)
    (hR : ∀ H', Sep H0 H' (refA m room (if putE room.toNat top L p = 0 then p.num else top) (if putE room.toNat top L p = 0 then L ++ [p] else L) :: Qs) → R (iv (putE room.toNat top L p)) H') :
    EvF P N.sounderref06_Log_Put #[ptr m, pv p] H R := by
  refine sounderref06_Log_Put_ev _ _ _ _ ?_
  simp only [sounderref06_Log_Put_g27, sounderref06_Log_Put_g28, sounderref06_Log_Put_g29, sounderref06_Log_Put_g30, sounderref06_Log_Put_g31, sounderref06_Log_Put_g32, sounderref06_Log_Put_g33, sounderref06_Log_Put_g34, sounderref06_Log_Put_g35, sounderref06_Log_Put_g36, sounderref06_Log_Put]
  have hx := h.newC (t := 30) (c := pktC p)
  simp only [bnd_some, brV_t, brV_f, newE_u, pickE_t, pickE_f, nilV_p, faV_p, cells_int, cells_bool, cells_ptr, cells_slice, cells_func, cells_agg, bin_eql, bin_neq, bin_lss, bin_leq, bin_gtr, bin_geq, bin_eqlb, bin_neqb, bin_eqlp, bin_eqlp0, bin_neqp, bin_neqp0, bin_eqls, bin_eqls0, un_not, un_neg, len_s, ex_t, cv_i, callV_f, Option.bind_some, Option.map_some, Nat.zero_add, Nat.add_zero, Nat.reduceAdd, Nat.reduceMul, size_newB, size_setB, blk_newB_self, own_newB_self, setB_setB, List.getElem?_toArray, List.getElem?_cons_zero, List.getElem?_cons_succ, List.length_cons, List.length_nil, List.all_cons, List.all_nil, isCell_int, isCell_bool, isCell_ptr, isCell_slice, isCell_func, Bool.and_true, Bool.and_self, and_self, if_true, List.size_toArray, and_true, true_and, Nat.reduceLeDiff, Nat.le_refl, Bool.not_true, Bool.not_false, Bool.true_and, Bool.false_and, Bool.and_false, Int.reduceBNe, Int.reduceBEq, Int.reduceLT, Int.reduceLE, decide_true, decide_false, ldP_sep hx]
  generalize newB H 30 (pktC p) = H1 at hx
  generalize H.size = x at hx
  have bad : ∀ (n : Int) (H' : Heap), n ≠ 0 → putE room.toNat top L p = n → Sep H0 H' (refA m room top L :: Qs) → R (iv n) H' := fun n H' hn hp h => by
    have := hR H'
    rw [hp, if_neg hn, if_neg hn] at this
    exact this h
  refine RMay_ev fun H2 he => ?_
  replace hx := hx.ext he
  have hmay : (Value.bool !decide (May p)) = .bool (decide (¬ May p)) := by by_cases hm : May p <;> simp [hm]
  simp only [bnd_some, brV_t, brV_f, newE_u, pickE_t, pickE_f, nilV_p, faV_p, cells_int, cells_bool, cells_ptr, cells_slice, cells_func, cells_agg, bin_eql, bin_neq, bin_lss, bin_leq, bin_gtr, bin_geq, bin_eqlb, bin_neqb, bin_eqlp, bin_eqlp0, bin_neqp, bin_neqp0, bin_eqls, bin_eqls0, un_not, un_neg, len_s, ex_t, cv_i, callV_f, Option.bind_some, Option.map_some, Nat.zero_add, Nat.add_zero, Nat.reduceAdd, Nat.reduceMul, size_newB, size_setB, blk_newB_self, own_newB_self, setB_setB, List.getElem?_toArray, List.getElem?_cons_zero, List.getElem?_cons_succ, List.length_cons, List.length_nil, List.all_cons, List.all_nil, isCell_int, isCell_bool, isCell_ptr, isCell_slice, isCell_func, Bool.and_true, Bool.and_self, and_self, if_true, List.size_toArray, and_true, true_and, Nat.reduceLeDiff, Nat.le_refl, Bool.not_true, Bool.not_false, Bool.true_and, Bool.false_and, Bool.and_false, Int.reduceBNe, Int.reduceBEq, Int.reduceLT, Int.reduceLE, decide_true, decide_false, hmay]
  refine brV_d (fun hm => ?_) (fun hm => ?_)
  · exact bad 2 H2 (by decide) (by simp [putE, hm]) hx.drop
  · have hm' : May p := Decidable.of_not_not hm
    have lx0 : ldE false 1 (ptr x) H2 = some (iv p.num) := ld_ptr (own_blk hx.cells) pktC_0
    obtain ⟨v, l0, l1, l2, hsh⟩ := hx.b1.ref
    simp only [bnd_some, brV_t, brV_f, newE_u, pickE_t, pickE_f, nilV_p, faV_p, cells_int, cells_bool, cells_ptr, cells_slice, cells_func, cells_agg, bin_eql, bin_neq, bin_lss, bin_leq, bin_gtr, bin_geq, bin_eqlb, bin_neqb, bin_eqlp, bin_eqlp0, bin_neqp, bin_neqp0, bin_eqls, bin_eqls0, un_not, un_neg, len_s, ex_t, cv_i, callV_f, Option.bind_some, Option.map_some, Nat.zero_add, Nat.add_zero, Nat.reduceAdd, Nat.reduceMul, size_newB, size_setB, blk_newB_self, own_newB_self, setB_setB, List.getElem?_toArray, List.getElem?_cons_zero, List.getElem?_cons_succ, List.length_cons, List.length_nil, List.all_cons, List.all_nil, isCell_int, isCell_bool, isCell_ptr, isCell_slice, isCell_func, Bool.and_true, Bool.and_self, and_self, if_true, List.size_toArray, and_true, true_and, Nat.reduceLeDiff, Nat.le_refl, Bool.not_true, Bool.not_false, Bool.true_and, Bool.false_and, Bool.and_false, Int.reduceBNe, Int.reduceBEq, Int.reduceLT, Int.reduceLE, decide_true, decide_false, lx0, l1]
    refine brV_d (fun ht => ?_) (fun ht => ?_)
    · exact bad 60 H2 (by decide) (by simp [putE, hm', ht]) hx.drop
    · simp only [bnd_some, brV_t, brV_f, newE_u, pickE_t, pickE_f, nilV_p, faV_p, cells_int, cells_bool, cells_ptr, cells_slice, cells_func, cells_agg, bin_eql, bin_neq, bin_lss, bin_leq, bin_gtr, bin_geq, bin_eqlb, bin_neqb, bin_eqlp, bin_eqlp0, bin_neqp, bin_neqp0, bin_eqls, bin_eqls0, un_not, un_neg, len_s, ex_t, cv_i, callV_f, Option.bind_some, Option.map_some, Nat.zero_add, Nat.add_zero, Nat.reduceAdd, Nat.reduceMul, size_newB, size_setB, blk_newB_self, own_newB_self, setB_setB, List.getElem?_toArray, List.getElem?_cons_zero, List.getElem?_cons_succ, List.length_cons, List.length_nil, List.all_cons, List.all_nil, isCell_int, isCell_bool, isCell_ptr, isCell_slice, isCell_func, Bool.and_true, Bool.and_self, and_self, if_true, List.size_toArray, and_true, true_and, Nat.reduceLeDiff, Nat.le_refl, Bool.not_true, Bool.not_false, Bool.true_and, Bool.false_and, Bool.and_false, Int.reduceBNe, Int.reduceBEq, Int.reduceLT, Int.reduceLE, decide_true, decide_false, l2, hsh.len, l0]
      refine brV_i (fun hr5 => ?_) (fun hr5 => ?_)
      · have hr' : L.length = room.toNat := by have : (L.length : Int) = room := by simpa using hr5
                                               omega
        exact bad 5 H2 (by decide) (by simp [putE, hm', ht, hr']) hx.drop
      · have hr' : L.length ≠ room.toNat := by have : (L.length : Int) ≠ room := by simpa using hr5
                                               omega
        have hput : putE room.toNat top L p = 0 := by simp [putE, hm', ht, hr']
        rw [hput] at hR
        simp only [if_true] at hR
        obtain ⟨H3, s1, h3⟩ := hx.b1.refTop (t := p.num)
        have lp := ldP_sep h3.b1
        simp only [bnd_some, brV_t, brV_f, newE_u, pickE_t, pickE_f, nilV_p, faV_p, cells_int, cells_bool, cells_ptr, cells_slice, cells_func, cells_agg, bin_eql, bin_neq, bin_lss, bin_leq, bin_gtr, bin_geq, bin_eqlb, bin_neqb, bin_eqlp, bin_eqlp0, bin_neqp, bin_neqp0, bin_eqls, bin_eqls0, un_not, un_neg, len_s, ex_t, cv_i, callV_f, Option.bind_some, Option.map_some, Nat.zero_add, Nat.add_zero, Nat.reduceAdd, Nat.reduceMul, size_newB, size_setB, blk_newB_self, own_newB_self, setB_setB, List.getElem?_toArray, List.getElem?_cons_zero, List.getElem?_cons_succ, List.length_cons, List.length_nil, List.all_cons, List.all_nil, isCell_int, isCell_bool, isCell_ptr, isCell_slice, isCell_func, Bool.and_true, Bool.and_self, and_self, if_true, List.size_toArray, and_true, true_and, Nat.reduceLeDiff, Nat.le_refl, Bool.not_true, Bool.not_false, Bool.true_and, Bool.false_and, Bool.and_false, Int.reduceBNe, Int.reduceBEq, Int.reduceLT, Int.reduceLE, decide_true, decide_false, lx0, s1, lp]
        refine ⟨?_, ?_⟩
        · refine RAll_sep h3 (by omega) fun H4 v4 h4 => ?_
          have lp4 := ldP_sep h4.b2
          simp only [bnd_some, brV_t, brV_f, newE_u, pickE_t, pickE_f, nilV_p, faV_p, cells_int, cells_bool, cells_ptr, cells_slice, cells_func, cells_agg, bin_eql, bin_neq, bin_lss, bin_leq, bin_gtr, bin_geq, bin_eqlb, bin_neqb, bin_eqlp, bin_eqlp0, bin_neqp, bin_neqp0, bin_eqls, bin_eqls0, un_not, un_neg, len_s, ex_t, cv_i, callV_f, Option.bind_some, Option.map_some, Nat.zero_add, Nat.add_zero, Nat.reduceAdd, Nat.reduceMul, size_newB, size_setB, blk_newB_self, own_newB_self, setB_setB, List.getElem?_toArray, List.getElem?_cons_zero, List.getElem?_cons_succ, List.length_cons, List.length_nil, List.all_cons, List.all_nil, isCell_int, isCell_bool, isCell_ptr, isCell_slice, isCell_func, Bool.and_true, Bool.and_self, and_self, if_true, List.size_toArray, and_true, true_and, Nat.reduceLeDiff, Nat.le_refl, Bool.not_true, Bool.not_false, Bool.true_and, Bool.false_and, Bool.and_false, Int.reduceBNe, Int.reduceBEq, Int.reduceLT, Int.reduceLE, decide_true, decide_false, lp4]
          refine bslE_1 (E := pktE) (a := p) rfl (fun H5 _ he5 ho5 => ?_) (by decide)
          refine appE_sep (E := pktE) (h4.ext he5) ho5.show (by simp only [List.length_cons, List.length_nil]; omega) (by decide) (by simp only [List.length_cons, List.length_nil]; omega) fun H6 v6 h6 => ?_
          obtain ⟨H7, s2, h7⟩ := h6.refSet
          simp only [bnd_some, brV_t, brV_f, newE_u, pickE_t, pickE_f, nilV_p, faV_p, cells_int, cells_bool, cells_ptr, cells_slice, cells_func, cells_agg, bin_eql, bin_neq, bin_lss, bin_leq, bin_gtr, bin_geq, bin_eqlb, bin_neqb, bin_eqlp, bin_eqlp0, bin_neqp, bin_neqp0, bin_eqls, bin_eqls0, un_not, un_neg, len_s, ex_t, cv_i, callV_f, Option.bind_some, Option.map_some, Nat.zero_add, Nat.add_zero, Nat.reduceAdd, Nat.reduceMul, size_newB, size_setB, blk_newB_self, own_newB_self, setB_setB, List.getElem?_toArray, List.getElem?_cons_zero, List.getElem?_cons_succ, List.length_cons, List.length_nil, List.all_cons, List.all_nil, isCell_int, isCell_bool, isCell_ptr, isCell_slice, isCell_func, Bool.and_true, Bool.and_self, and_self, if_true, List.size_toArray, and_true, true_and, Nat.reduceLeDiff, Nat.le_refl, Bool.not_true, Bool.not_false, Bool.true_and, Bool.false_and, Bool.and_false, Int.reduceBNe, Int.reduceBEq, Int.reduceLT, Int.reduceLE, decide_true, decide_false, s2]
          exact hR H7 h7.b1.drop
        · refine bslE_1 (E := pktE) (a := p) rfl (fun H5 hs5 he5 ho5 => ?_) (by decide)
          have h5 := h3.new he5 (Q := lstA pktE _ _) (T := [H3.size]) ho5 (by simp)
          refine RAll_sep h5.b1 (by omega) fun H6 v6 h6 => ?_
          obtain ⟨T6, ho6⟩ := h6.b2.list
          refine appE_sep (E := pktE) h6 ho6.show (by simp only [List.length_cons, List.length_nil]; omega) (by decide) (by simp only [List.length_cons, List.length_nil]; omega) fun H7 v7 h7 => ?_
          obtain ⟨H8, s2, h8⟩ := h7.refSet
          simp only [bnd_some, brV_t, brV_f, newE_u, pickE_t, pickE_f, nilV_p, faV_p, cells_int, cells_bool, cells_ptr, cells_slice, cells_func, cells_agg, bin_eql, bin_neq, bin_lss, bin_leq, bin_gtr, bin_geq, bin_eqlb, bin_neqb, bin_eqlp, bin_eqlp0, bin_neqp, bin_neqp0, bin_eqls, bin_eqls0, un_not, un_neg, len_s, ex_t, cv_i, callV_f, Option.bind_some, Option.map_some, Nat.zero_add, Nat.add_zero, Nat.reduceAdd, Nat.reduceMul, size_newB, size_setB, blk_newB_self, own_newB_self, setB_setB, List.getElem?_toArray, List.getElem?_cons_zero, List.getElem?_cons_succ, List.length_cons, List.length_nil, List.all_cons, List.all_nil, isCell_int, isCell_bool, isCell_ptr, isCell_slice, isCell_func, Bool.and_true, Bool.and_self, and_self, if_true, List.size_toArray, and_true, true_and, Nat.reduceLeDiff, Nat.le_refl, Bool.not_true, Bool.not_false, Bool.true_and, Bool.false_and, Bool.and_false, Int.reduceBNe, Int.reduceBEq, Int.reduceLT, Int.reduceLE, decide_true, decide_false, s2]
          exact hR H8 h8.b1.drop.b1.drop
theorem RClear_sep (h : Sep H0 H (refA m room top L :: Qs)) (hR : ∀ H', Sep H0 H' (refA m room top [] :: Qs) → R (.tuple #[]) H') : EvF P N.sounderref06_Log_Clear #[ptr m] H R := by
  refine sounderref06_Log_Clear_ev _ _ _ ?_
  simp only [sounderref06_Log_Clear_g2, sounderref06_Log_Clear]
  obtain ⟨H', s, h'⟩ := h.refNil
  simp only [bnd_some, brV_t, brV_f, newE_u, pickE_t, pickE_f, nilV_p, faV_p, cells_int, cells_bool, cells_ptr, cells_slice, cells_func, cells_agg, bin_eql, bin_neq, bin_lss, bin_leq, bin_gtr, bin_geq, bin_eqlb, bin_neqb, bin_eqlp, bin_eqlp0, bin_neqp, bin_neqp0, bin_eqls, bin_eqls0, un_not, un_neg, len_s, ex_t, cv_i, callV_f, Option.bind_some, Option.map_some, Nat.zero_add, Nat.add_zero, Nat.reduceAdd, Nat.reduceMul, size_newB, size_setB, blk_newB_self, own_newB_self, setB_setB, List.getElem?_toArray, List.getElem?_cons_zero, List.getElem?_cons_succ, List.length_cons, List.length_nil, List.all_cons, List.all_nil, isCell_int, isCell_bool, isCell_ptr, isCell_slice, isCell_func, Bool.and_true, Bool.and_self, and_self, if_true, List.size_toArray, and_true, true_and, Nat.reduceLeDiff, Nat.le_refl, Bool.not_true, Bool.not_false, Bool.true_and, Bool.false_and, Bool.and_false, Int.reduceBNe, Int.reduceBEq, Int.reduceLT, Int.reduceLE, decide_true, decide_false, s]
  exact hR H' h'
theorem RCopy_sep (h : Sep H0 H (refA m room top L :: Qs)) (hL : L.length ≤ 300) (hR : ∀ H' m', Sep H0 H' (refA m' room top L :: refA m room top L :: Qs) → R (ptr m') H') : EvF P N.sounderref06_Log_Copy #[ptr m] H R := by
  refine sounderref06_Log_Copy_ev _ _ _ ?_
  simp only [sounderref06_Log_Copy_g5, sounderref06_Log_Copy_g6, sounderref06_Log_Copy]
  obtain ⟨v, l0, l1, l2, hsh⟩ := h.ref
  simp only [bnd_some, brV_t, brV_f, newE_u, pickE_t, pickE_f, nilV_p, faV_p, cells_int, cells_bool, cells_ptr, cells_slice, cells_func, cells_agg, bin_eql, bin_neq, bin_lss, bin_leq, bin_gtr, bin_geq, bin_eqlb, bin_neqb, bin_eqlp, bin_eqlp0, bin_neqp, bin_neqp0, bin_eqls, bin_eqls0, un_not, un_neg, len_s, ex_t, cv_i, callV_f, Option.bind_some, Option.map_some, Nat.zero_add, Nat.add_zero, Nat.reduceAdd, Nat.reduceMul, size_newB, size_setB, blk_newB_self, own_newB_self, setB_setB, List.getElem?_toArray, List.getElem?_cons_zero, List.getElem?_cons_succ, List.length_cons, List.length_nil, List.all_cons, List.all_nil, isCell_int, isCell_bool, isCell_ptr, isCell_slice, isCell_func, Bool.and_true, Bool.and_self, and_self, if_true, List.size_toArray, and_true, true_and, Nat.reduceLeDiff, Nat.le_refl, Bool.not_true, Bool.not_false, Bool.true_and, Bool.false_and, Bool.and_false, Int.reduceBNe, Int.reduceBEq, Int.reduceLT, Int.reduceLE, decide_true, decide_false, l0, l1]
  refine RAll_sep h hL fun H1 v1 h1 => ?_
  obtain ⟨_, l0, l1, _, _⟩ := h1.b1.ref
  have hb : buildV #[(.int .i64 0), (.int .i64 0), (.slice none 0 0)] (places [(0, 1), (1, 1), (2, 1)]) [(0, iv room), (1, iv top), (2, v1)] = some (.agg (refC room top v1)) := by
    obtain ⟨T, ho⟩ := h1.list
    cases ho <;> rfl
  simp only [bnd_some, brV_t, brV_f, newE_u, pickE_t, pickE_f, nilV_p, faV_p, cells_int, cells_bool, cells_ptr, cells_slice, cells_func, cells_agg, bin_eql, bin_neq, bin_lss, bin_leq, bin_gtr, bin_geq, bin_eqlb, bin_neqb, bin_eqlp, bin_eqlp0, bin_neqp, bin_neqp0, bin_eqls, bin_eqls0, un_not, un_neg, len_s, ex_t, cv_i, callV_f, Option.bind_some, Option.map_some, Nat.zero_add, Nat.add_zero, Nat.reduceAdd, Nat.reduceMul, size_newB, size_setB, blk_newB_self, own_newB_self, setB_setB, List.getElem?_toArray, List.getElem?_cons_zero, List.getElem?_cons_succ, List.length_cons, List.length_nil, List.all_cons, List.all_nil, isCell_int, isCell_bool, isCell_ptr, isCell_slice, isCell_func, Bool.and_true, Bool.and_self, and_self, if_true, List.size_toArray, and_true, true_and, Nat.reduceLeDiff, Nat.le_refl, Bool.not_true, Bool.not_false, Bool.true_and, Bool.false_and, Bool.and_false, Int.reduceBNe, Int.reduceBEq, Int.reduceLT, Int.reduceLE, decide_true, decide_false, l0, l1, hb]
  obtain ⟨T, ho, hn⟩ := h1.get
  replace ho : OwnL pktE H1 v1 T L := ho
  have he : Ext [] H1 (newB H1 73 (refC room top v1)) := (Ext.refl _ _).newB _ _
  have hm : H1.size ∉ T := fun hx => by have := ho.lt _ hx; omega
  have h2 := hn (refA H1.size room top L) (newB H1 73 (refC room top v1)) (H1.size :: T) (he.mono (by simp)) ⟨v1, T, rfl, own_newB_self, ho.ext he (by simp), hm⟩ (by simp; exact fun a h => Or.inl h)
  obtain ⟨_, l0, l1, _, _⟩ := h2.b1.ref
  simp only [l0, l1, bnd_some, brV_t, brV_f, newE_u, pickE_t, pickE_f, nilV_p, faV_p, cells_int, cells_bool, cells_ptr, cells_slice, cells_func, cells_agg, bin_eql, bin_neq, bin_lss, bin_leq, bin_gtr, bin_geq, bin_eqlb, bin_neqb, bin_eqlp, bin_eqlp0, bin_neqp, bin_neqp0, bin_eqls, bin_eqls0, un_not, un_neg, len_s, ex_t, cv_i, callV_f, Option.bind_some, Option.map_some, Nat.zero_add, Nat.add_zero, Nat.reduceAdd, Nat.reduceMul, size_newB, size_setB, blk_newB_self, own_newB_self, setB_setB, List.getElem?_toArray, List.getElem?_cons_zero, List.getElem?_cons_succ, List.length_cons, List.length_nil, List.all_cons, List.all_nil, isCell_int, isCell_bool, isCell_ptr, isCell_slice, isCell_func, Bool.and_true, Bool.and_self, and_self, if_true, List.size_toArray, and_true, true_and, Nat.reduceLeDiff, Nat.le_refl, Bool.not_true, Bool.not_false, Bool.true_and, Bool.false_and, Bool.and_false, Int.reduceBNe, Int.reduceBEq, Int.reduceLT, Int.reduceLE, decide_true, decide_false]
  exact hR _ _ h2
end
end Go.Hc

/- SentKnown. -/
import Derived.Test.YtchdnhbkjfdnmaaS06Plays
set_option linter.unusedSimpArgs false
set_option linter.unusedVariables false
namespace Go.Hc
open Go

def enumF : Nat → List Value → List (Nat × Value)
  | _, [] => []
  | i, v :: vs => (i, v) :: enumF (i + 1) vs
theorem fillA_rows {A : Type} {E : Enc A} : ∀ {vs : List Value} {l : List A} {i n : Nat} {cs : Array Value} {f : Nat → Array Value}, Rows E.sz cs n f → i + vs.length ≤ n → vs.map Value.cells = l.map E.c →
    ∃ cs', fillA (every E.sz) cs (enumF i vs) = some cs' ∧ Rows E.sz cs' n (fun k => if i ≤ k then ((l[k - i]?).map E.c).getD (f k) else f k)
  | [], l, i, n, cs, f, hr, _, hv => by
    have : l = [] := by cases l with
      | nil => rfl
      | cons a l => simp at hv
    subst this
    exact ⟨cs, rfl, hr.congr fun k _ => by simp⟩
  | v :: vs, l, i, n, cs, f, hr, hi, hv => by
    cases l with
    | nil => simp at hv
    | cons a l =>
      simp only [List.map_cons, List.cons.injEq] at hv
      simp only [List.length_cons] at hi
      have hin : i < n := by omega
      have hrl := row_lt (sz := E.sz) hin
      have hsz := hr.size
      have hlen := E.len a
      obtain ⟨cs', h1, h2⟩ := fillA_rows (hr.set (i := i) (l := v.cells.toList) hin (by rw [hv.1]; simp [hlen])) (i := i + 1) (by omega) hv.2
      refine ⟨cs', ?_, h2.congr fun k hk => ?_⟩
      · simp only [enumF, fillA, every]
        rw [if_pos (by rw [hv.1]; omega)]; exact h1
      · by_cases hki : i ≤ k
        · by_cases hke : k = i
          · subst hke; simp [hv.1]; intro h; omega
          · have e : k - i = (k - (i + 1)) + 1 := by omega
            rw [if_pos (by omega), if_pos hki, e, List.getElem?_cons_succ]; simp [hke]
        · have hke : k ≠ i := by omega
          rw [if_neg (by omega), if_neg hki]; simp [hke]
theorem bslE_n {A : Type} {E : Enc A} {H : Heap} {t : TypeId} {vs : List Value} {l : List A} {n : Nat} {k : Value → Heap → Prop} (hv : vs.map Value.cells = l.map E.c) (hn : l.length = n) (hsz : n * E.sz ≤ 2 ^ 24) (hn3 : n < 2 ^ 63)
    (hk : ∀ H' v, Ext [] H H' → OwnL E H' v [H.size] l → k v H') : bslE t E.z E.sz n (enumF 0 vs) H k := by
  have hvl : vs.length = n := by have := congrArg List.length hv; simp at this; omega
  obtain ⟨cs', h1, h2⟩ := fillA_rows (Rows.zero (sz := E.sz) n E.zlen) (i := 0) (vs := vs) (by omega) hv
  refine ⟨hsz, ?_⟩
  rw [h1, bnd_some]
  subst hn
  refine hk _ _ ((Ext.refl _ _).newB _ _) (OwnL.mk (l := l) own_newB_self h2 (Nat.le_refl _) (fun i hi => by simp [hi]) hn3)

/-- a log that is none -/
def NoneV (H : Heap) (v : Value) : Prop := v = .pointer none ∨ ∃ b c, v = ptr b ∧ blk H b = some c ∧ c[0]? = some (iv 0)
theorem NoneV.ext {H H' : Heap} {v : Value} (h : NoneV H v) (he : Ext [] H H') : NoneV H' v := by
  rcases h with h | ⟨b, c, h, hb, hc⟩
  · exact Or.inl h
  · exact Or.inr ⟨b, c, h, he.blk hb (by simp), hc⟩
section
variable {H : Heap} {v : Value} {R : Value → Heap → Prop}
theorem N_none (h : NoneV H v) (hR : R (.bool true) H) : EvF P N.sent_Log_none #[v] H R := by
  rcases h with rfl | ⟨b, c, rfl, hb, hc⟩
  · exact none_nil hR
  · refine sent_Log_none_ev _ _ _ ?_
    have l0 : ldE false 1 (ptr b) H = some (iv 0) := ld_ptr hb hc
    simp only [sent_Log_none_g5, sent_Log_none_g6, sent_Log_none]
    simp only [bnd_some, brV_t, brV_f, newE_u, pickE_t, pickE_f, nilV_p, faV_p, cells_int, cells_bool, cells_ptr, cells_slice, cells_func, cells_agg, bin_eql, bin_neq, bin_lss, bin_leq, bin_gtr, bin_geq, bin_eqlb, bin_neqb, bin_eqlp, bin_eqlp0, bin_neqp, bin_neqp0, bin_eqls, bin_eqls0, un_not, un_neg, len_s, ex_t, cv_i, callV_f, Option.bind_some, Option.map_some, Nat.zero_add, Nat.add_zero, Nat.reduceAdd, Nat.reduceMul, size_newB, size_setB, blk_newB_self, own_newB_self, setB_setB, List.getElem?_toArray, List.getElem?_cons_zero, List.getElem?_cons_succ, List.length_cons, List.length_nil, List.all_cons, List.all_nil, isCell_int, isCell_bool, isCell_ptr, isCell_slice, isCell_func, Bool.and_true, Bool.and_self, and_self, if_true, List.size_toArray, and_true, true_and, Nat.reduceLeDiff, Nat.le_refl, Bool.not_true, Bool.not_false, Bool.true_and, Bool.false_and, Bool.and_false, Int.reduceBNe, Int.reduceBEq, Int.reduceLT, Int.reduceLE, decide_true, decide_false, l0, BEq.rfl]
    exact hR
theorem N_slot {n : Int} (h : NoneV H v) (hR : R (.pointer none) H) : EvF P N.sent_Log_slot #[v, iv n] H R := by
  refine sent_Log_slot_ev _ _ _ _ ?_
  simp only [sent_Log_slot_g27, sent_Log_slot_g28, sent_Log_slot_g29, sent_Log_slot_g30, sent_Log_slot_g31, sent_Log_slot_g32, sent_Log_slot_g33, sent_Log_slot_g34, sent_Log_slot_g35, sent_Log_slot_g36, sent_Log_slot]
  refine N_none h ?_
  simp only [bnd_some, brV_t, brV_f, newE_u, pickE_t, pickE_f, nilV_p, faV_p, cells_int, cells_bool, cells_ptr, cells_slice, cells_func, cells_agg, bin_eql, bin_neq, bin_lss, bin_leq, bin_gtr, bin_geq, bin_eqlb, bin_neqb, bin_eqlp, bin_eqlp0, bin_neqp, bin_neqp0, bin_eqls, bin_eqls0, un_not, un_neg, len_s, ex_t, cv_i, callV_f, Option.bind_some, Option.map_some, Nat.zero_add, Nat.add_zero, Nat.reduceAdd, Nat.reduceMul, size_newB, size_setB, blk_newB_self, own_newB_self, setB_setB, List.getElem?_toArray, List.getElem?_cons_zero, List.getElem?_cons_succ, List.length_cons, List.length_nil, List.all_cons, List.all_nil, isCell_int, isCell_bool, isCell_ptr, isCell_slice, isCell_func, Bool.and_true, Bool.and_self, and_self, if_true, List.size_toArray, and_true, true_and, Nat.reduceLeDiff, Nat.le_refl, Bool.not_true, Bool.not_false, Bool.true_and, Bool.false_and, Bool.and_false, Int.reduceBNe, Int.reduceBEq, Int.reduceLT, Int.reduceLE, decide_true, decide_false]
  exact hR
theorem N_Get {n : Int} (h : NoneV H v) (hR : ∀ H', Ext [] H H' → R (.tuple #[pv pkt0, .bool false]) H') : EvF P N.sent_Log_Get #[v, iv n] H R := by
  refine sent_Log_Get_ev _ _ _ _ ?_
  simp only [sent_Log_Get_g13, sent_Log_Get_g14, sent_Log_Get_g15, sent_Log_Get_g16, sent_Log_Get_g17, sent_Log_Get]
  simp only [bnd_some, brV_t, brV_f, newE_u, pickE_t, pickE_f, nilV_p, faV_p, cells_int, cells_bool, cells_ptr, cells_slice, cells_func, cells_agg, bin_eql, bin_neq, bin_lss, bin_leq, bin_gtr, bin_geq, bin_eqlb, bin_neqb, bin_eqlp, bin_eqlp0, bin_neqp, bin_neqp0, bin_eqls, bin_eqls0, un_not, un_neg, len_s, ex_t, cv_i, callV_f, Option.bind_some, Option.map_some, Nat.zero_add, Nat.add_zero, Nat.reduceAdd, Nat.reduceMul, size_newB, size_setB, blk_newB_self, own_newB_self, setB_setB, List.getElem?_toArray, List.getElem?_cons_zero, List.getElem?_cons_succ, List.length_cons, List.length_nil, List.all_cons, List.all_nil, isCell_int, isCell_bool, isCell_ptr, isCell_slice, isCell_func, Bool.and_true, Bool.and_self, and_self, if_true, List.size_toArray, and_true, true_and, Nat.reduceLeDiff, Nat.le_refl, Bool.not_true, Bool.not_false, Bool.true_and, Bool.false_and, Bool.and_false, Int.reduceBNe, Int.reduceBEq, Int.reduceLT, Int.reduceLE, decide_true, decide_false, pkt0_C]
  have er := Ext.refl [] (newB H 30 (pktC pkt0))
  refine N_slot (h.ext ((Ext.refl _ _).newB _ _)) ?_
  simp only [bnd_some, brV_t, brV_f, newE_u, pickE_t, pickE_f, nilV_p, faV_p, cells_int, cells_bool, cells_ptr, cells_slice, cells_func, cells_agg, bin_eql, bin_neq, bin_lss, bin_leq, bin_gtr, bin_geq, bin_eqlb, bin_neqb, bin_eqlp, bin_eqlp0, bin_neqp, bin_neqp0, bin_eqls, bin_eqls0, un_not, un_neg, len_s, ex_t, cv_i, callV_f, Option.bind_some, Option.map_some, Nat.zero_add, Nat.add_zero, Nat.reduceAdd, Nat.reduceMul, size_newB, size_setB, blk_newB_self, own_newB_self, setB_setB, List.getElem?_toArray, List.getElem?_cons_zero, List.getElem?_cons_succ, List.length_cons, List.length_nil, List.all_cons, List.all_nil, isCell_int, isCell_bool, isCell_ptr, isCell_slice, isCell_func, Bool.and_true, Bool.and_self, and_self, if_true, List.size_toArray, and_true, true_and, Nat.reduceLeDiff, Nat.le_refl, Bool.not_true, Bool.not_false, Bool.true_and, Bool.false_and, Bool.and_false, Int.reduceBNe, Int.reduceBEq, Int.reduceLT, Int.reduceLE, decide_true, decide_false, Option.isNone_none, ld_pkt er, st_pkt er, st_pkt' er]
  exact hR _ (ext_pkt er)
theorem N_Drop {n : Int} (h : NoneV H v) (hR : ∀ H', Ext [] H H' → R (.tuple #[pv pkt0, .bool false]) H') : EvF P N.sent_Log_Drop #[v, iv n] H R := by
  refine sent_Log_Drop_ev _ _ _ _ ?_
  simp only [sent_Log_Drop_g31, sent_Log_Drop_g32, sent_Log_Drop_g33, sent_Log_Drop_g34, sent_Log_Drop_g35, sent_Log_Drop_g36, sent_Log_Drop_g37, sent_Log_Drop_g39, sent_Log_Drop_g40, sent_Log_Drop_g41, sent_Log_Drop_g42, sent_Log_Drop_l47, sent_Log_Drop]
  simp only [bnd_some, brV_t, brV_f, newE_u, pickE_t, pickE_f, nilV_p, faV_p, cells_int, cells_bool, cells_ptr, cells_slice, cells_func, cells_agg, bin_eql, bin_neq, bin_lss, bin_leq, bin_gtr, bin_geq, bin_eqlb, bin_neqb, bin_eqlp, bin_eqlp0, bin_neqp, bin_neqp0, bin_eqls, bin_eqls0, un_not, un_neg, len_s, ex_t, cv_i, callV_f, Option.bind_some, Option.map_some, Nat.zero_add, Nat.add_zero, Nat.reduceAdd, Nat.reduceMul, size_newB, size_setB, blk_newB_self, own_newB_self, setB_setB, List.getElem?_toArray, List.getElem?_cons_zero, List.getElem?_cons_succ, List.length_cons, List.length_nil, List.all_cons, List.all_nil, isCell_int, isCell_bool, isCell_ptr, isCell_slice, isCell_func, Bool.and_true, Bool.and_self, and_self, if_true, List.size_toArray, and_true, true_and, Nat.reduceLeDiff, Nat.le_refl, Bool.not_true, Bool.not_false, Bool.true_and, Bool.false_and, Bool.and_false, Int.reduceBNe, Int.reduceBEq, Int.reduceLT, Int.reduceLE, decide_true, decide_false, pkt0_C]
  have er := Ext.refl [] (newB H 30 (pktC pkt0))
  refine N_slot (h.ext ((Ext.refl _ _).newB _ _)) ?_
  simp only [bnd_some, brV_t, brV_f, newE_u, pickE_t, pickE_f, nilV_p, faV_p, cells_int, cells_bool, cells_ptr, cells_slice, cells_func, cells_agg, bin_eql, bin_neq, bin_lss, bin_leq, bin_gtr, bin_geq, bin_eqlb, bin_neqb, bin_eqlp, bin_eqlp0, bin_neqp, bin_neqp0, bin_eqls, bin_eqls0, un_not, un_neg, len_s, ex_t, cv_i, callV_f, Option.bind_some, Option.map_some, Nat.zero_add, Nat.add_zero, Nat.reduceAdd, Nat.reduceMul, size_newB, size_setB, blk_newB_self, own_newB_self, setB_setB, List.getElem?_toArray, List.getElem?_cons_zero, List.getElem?_cons_succ, List.length_cons, List.length_nil, List.all_cons, List.all_nil, isCell_int, isCell_bool, isCell_ptr, isCell_slice, isCell_func, Bool.and_true, Bool.and_self, and_self, if_true, List.size_toArray, and_true, true_and, Nat.reduceLeDiff, Nat.le_refl, Bool.not_true, Bool.not_false, Bool.true_and, Bool.false_and, Bool.and_false, Int.reduceBNe, Int.reduceBEq, Int.reduceLT, Int.reduceLE, decide_true, decide_false, Option.isNone_none, ld_pkt er, st_pkt er, st_pkt' er]
  exact hR _ (ext_pkt er)
theorem N_Oldest (h : NoneV H v) (hR : ∀ H', Ext [] H H' → R (.tuple #[pv pkt0, .bool false]) H') : EvF P N.sent_Log_Oldest #[v] H R := by
  refine sent_Log_Oldest_ev _ _ _ ?_
  simp only [sent_Log_Oldest_g11, sent_Log_Oldest_g12, sent_Log_Oldest_g13, sent_Log_Oldest_g14, sent_Log_Oldest]
  simp only [bnd_some, brV_t, brV_f, newE_u, pickE_t, pickE_f, nilV_p, faV_p, cells_int, cells_bool, cells_ptr, cells_slice, cells_func, cells_agg, bin_eql, bin_neq, bin_lss, bin_leq, bin_gtr, bin_geq, bin_eqlb, bin_neqb, bin_eqlp, bin_eqlp0, bin_neqp, bin_neqp0, bin_eqls, bin_eqls0, un_not, un_neg, len_s, ex_t, cv_i, callV_f, Option.bind_some, Option.map_some, Nat.zero_add, Nat.add_zero, Nat.reduceAdd, Nat.reduceMul, size_newB, size_setB, blk_newB_self, own_newB_self, setB_setB, List.getElem?_toArray, List.getElem?_cons_zero, List.getElem?_cons_succ, List.length_cons, List.length_nil, List.all_cons, List.all_nil, isCell_int, isCell_bool, isCell_ptr, isCell_slice, isCell_func, Bool.and_true, Bool.and_self, and_self, if_true, List.size_toArray, and_true, true_and, Nat.reduceLeDiff, Nat.le_refl, Bool.not_true, Bool.not_false, Bool.true_and, Bool.false_and, Bool.and_false, Int.reduceBNe, Int.reduceBEq, Int.reduceLT, Int.reduceLE, decide_true, decide_false, pkt0_C]
  have er := Ext.refl [] (newB H 30 (pktC pkt0))
  refine N_none (h.ext ((Ext.refl _ _).newB _ _)) ?_
  simp only [bnd_some, brV_t, brV_f, newE_u, pickE_t, pickE_f, nilV_p, faV_p, cells_int, cells_bool, cells_ptr, cells_slice, cells_func, cells_agg, bin_eql, bin_neq, bin_lss, bin_leq, bin_gtr, bin_geq, bin_eqlb, bin_neqb, bin_eqlp, bin_eqlp0, bin_neqp, bin_neqp0, bin_eqls, bin_eqls0, un_not, un_neg, len_s, ex_t, cv_i, callV_f, Option.bind_some, Option.map_some, Nat.zero_add, Nat.add_zero, Nat.reduceAdd, Nat.reduceMul, size_newB, size_setB, blk_newB_self, own_newB_self, setB_setB, List.getElem?_toArray, List.getElem?_cons_zero, List.getElem?_cons_succ, List.length_cons, List.length_nil, List.all_cons, List.all_nil, isCell_int, isCell_bool, isCell_ptr, isCell_slice, isCell_func, Bool.and_true, Bool.and_self, and_self, if_true, List.size_toArray, and_true, true_and, Nat.reduceLeDiff, Nat.le_refl, Bool.not_true, Bool.not_false, Bool.true_and, Bool.false_and, Bool.and_false, Int.reduceBNe, Int.reduceBEq, Int.reduceLT, Int.reduceLE, decide_true, decide_false, ld_pkt er, st_pkt er, st_pkt' er]
  exact hR _ (ext_pkt er)
theorem N_Clear (h : NoneV H v) (hR : R (.tuple #[]) H) : EvF P N.sent_Log_Clear #[v] H R := by
  refine sent_Log_Clear_ev _ _ _ ?_
  simp only [sent_Log_Clear_g6, sent_Log_Clear_g7, sent_Log_Clear]
  refine N_none h ?_
  simp only [bnd_some, brV_t, brV_f, newE_u, pickE_t, pickE_f, nilV_p, faV_p, cells_int, cells_bool, cells_ptr, cells_slice, cells_func, cells_agg, bin_eql, bin_neq, bin_lss, bin_leq, bin_gtr, bin_geq, bin_eqlb, bin_neqb, bin_eqlp, bin_eqlp0, bin_neqp, bin_neqp0, bin_eqls, bin_eqls0, un_not, un_neg, len_s, ex_t, cv_i, callV_f, Option.bind_some, Option.map_some, Nat.zero_add, Nat.add_zero, Nat.reduceAdd, Nat.reduceMul, size_newB, size_setB, blk_newB_self, own_newB_self, setB_setB, List.getElem?_toArray, List.getElem?_cons_zero, List.getElem?_cons_succ, List.length_cons, List.length_nil, List.all_cons, List.all_nil, isCell_int, isCell_bool, isCell_ptr, isCell_slice, isCell_func, Bool.and_true, Bool.and_self, and_self, if_true, List.size_toArray, and_true, true_and, Nat.reduceLeDiff, Nat.le_refl, Bool.not_true, Bool.not_false, Bool.true_and, Bool.false_and, Bool.and_false, Int.reduceBNe, Int.reduceBEq, Int.reduceLT, Int.reduceLE, decide_true, decide_false]
  exact hR
theorem N_Put {p : Pkt} (h : NoneV H v) (hR : ∀ H', Ext [] H H' → R (iv 1) H') : EvF P N.sent_Log_Put #[v, pv p] H R := by
  refine sent_Log_Put_ev _ _ _ _ ?_
  simp only [sent_Log_Put_g40, sent_Log_Put_g41, sent_Log_Put_g42, sent_Log_Put_g43, sent_Log_Put_g44, sent_Log_Put_g45, sent_Log_Put_g46, sent_Log_Put_g47, sent_Log_Put_g48, sent_Log_Put_g50, sent_Log_Put_g51, sent_Log_Put_g52, sent_Log_Put_g53, sent_Log_Put_g54, sent_Log_Put_g56, sent_Log_Put_g57, sent_Log_Put]
  simp only [bnd_some, brV_t, brV_f, newE_u, pickE_t, pickE_f, nilV_p, faV_p, cells_int, cells_bool, cells_ptr, cells_slice, cells_func, cells_agg, bin_eql, bin_neq, bin_lss, bin_leq, bin_gtr, bin_geq, bin_eqlb, bin_neqb, bin_eqlp, bin_eqlp0, bin_neqp, bin_neqp0, bin_eqls, bin_eqls0, un_not, un_neg, len_s, ex_t, cv_i, callV_f, Option.bind_some, Option.map_some, Nat.zero_add, Nat.add_zero, Nat.reduceAdd, Nat.reduceMul, size_newB, size_setB, blk_newB_self, own_newB_self, setB_setB, List.getElem?_toArray, List.getElem?_cons_zero, List.getElem?_cons_succ, List.length_cons, List.length_nil, List.all_cons, List.all_nil, isCell_int, isCell_bool, isCell_ptr, isCell_slice, isCell_func, Bool.and_true, Bool.and_self, and_self, if_true, List.size_toArray, and_true, true_and, Nat.reduceLeDiff, Nat.le_refl, Bool.not_true, Bool.not_false, Bool.true_and, Bool.false_and, Bool.and_false, Int.reduceBNe, Int.reduceBEq, Int.reduceLT, Int.reduceLE, decide_true, decide_false]
  have he : Ext [] H (newB H 30 (pktC p)) := (Ext.refl _ _).newB _ _
  refine N_none (h.ext he) ?_
  simp only [bnd_some, brV_t, brV_f, newE_u, pickE_t, pickE_f, nilV_p, faV_p, cells_int, cells_bool, cells_ptr, cells_slice, cells_func, cells_agg, bin_eql, bin_neq, bin_lss, bin_leq, bin_gtr, bin_geq, bin_eqlb, bin_neqb, bin_eqlp, bin_eqlp0, bin_neqp, bin_neqp0, bin_eqls, bin_eqls0, un_not, un_neg, len_s, ex_t, cv_i, callV_f, Option.bind_some, Option.map_some, Nat.zero_add, Nat.add_zero, Nat.reduceAdd, Nat.reduceMul, size_newB, size_setB, blk_newB_self, own_newB_self, setB_setB, List.getElem?_toArray, List.getElem?_cons_zero, List.getElem?_cons_succ, List.length_cons, List.length_nil, List.all_cons, List.all_nil, isCell_int, isCell_bool, isCell_ptr, isCell_slice, isCell_func, Bool.and_true, Bool.and_self, and_self, if_true, List.size_toArray, and_true, true_and, Nat.reduceLeDiff, Nat.le_refl, Bool.not_true, Bool.not_false, Bool.true_and, Bool.false_and, Bool.and_false, Int.reduceBNe, Int.reduceBEq, Int.reduceLT, Int.reduceLE, decide_true, decide_false]
  exact hR _ he
theorem N_Last (h : NoneV H v) (hR : R (iv (-1)) H) : EvF P N.sent_Log_Last #[v] H R := by
  refine sent_Log_Last_ev _ _ _ ?_
  simp only [sent_Log_Last_g11, sent_Log_Last_g12, sent_Log_Last_g13, sent_Log_Last_g14, sent_Log_Last]
  refine N_none h ?_
  simp only [bnd_some, brV_t, brV_f, newE_u, pickE_t, pickE_f, nilV_p, faV_p, cells_int, cells_bool, cells_ptr, cells_slice, cells_func, cells_agg, bin_eql, bin_neq, bin_lss, bin_leq, bin_gtr, bin_geq, bin_eqlb, bin_neqb, bin_eqlp, bin_eqlp0, bin_neqp, bin_neqp0, bin_eqls, bin_eqls0, un_not, un_neg, len_s, ex_t, cv_i, callV_f, Option.bind_some, Option.map_some, Nat.zero_add, Nat.add_zero, Nat.reduceAdd, Nat.reduceMul, size_newB, size_setB, blk_newB_self, own_newB_self, setB_setB, List.getElem?_toArray, List.getElem?_cons_zero, List.getElem?_cons_succ, List.length_cons, List.length_nil, List.all_cons, List.all_nil, isCell_int, isCell_bool, isCell_ptr, isCell_slice, isCell_func, Bool.and_true, Bool.and_self, and_self, if_true, List.size_toArray, and_true, true_and, Nat.reduceLeDiff, Nat.le_refl, Bool.not_true, Bool.not_false, Bool.true_and, Bool.false_and, Bool.and_false, Int.reduceBNe, Int.reduceBEq, Int.reduceLT, Int.reduceLE, decide_true, decide_false]
  exact hR
theorem NoneV.cell (h : NoneV H v) : v.cells = #[v] := by
  rcases h with rfl | ⟨b, c, rfl, _⟩ <;> rfl
theorem N_total {f : Value} (h : NoneV H v) (hR : R (iv 0) H) : EvF P N.sent_Log_total #[v, f] H R := by
  refine sent_Log_total_ev _ _ _ _ ?_
  simp only [sent_Log_total_g11, sent_Log_total_g12, sent_Log_total_g13, sent_Log_total_g14, sent_Log_total]
  refine N_none h ?_
  simp only [bnd_some, brV_t, brV_f, newE_u, pickE_t, pickE_f, nilV_p, faV_p, cells_int, cells_bool, cells_ptr, cells_slice, cells_func, cells_agg, bin_eql, bin_neq, bin_lss, bin_leq, bin_gtr, bin_geq, bin_eqlb, bin_neqb, bin_eqlp, bin_eqlp0, bin_neqp, bin_neqp0, bin_eqls, bin_eqls0, un_not, un_neg, len_s, ex_t, cv_i, callV_f, Option.bind_some, Option.map_some, Nat.zero_add, Nat.add_zero, Nat.reduceAdd, Nat.reduceMul, size_newB, size_setB, blk_newB_self, own_newB_self, setB_setB, List.getElem?_toArray, List.getElem?_cons_zero, List.getElem?_cons_succ, List.length_cons, List.length_nil, List.all_cons, List.all_nil, isCell_int, isCell_bool, isCell_ptr, isCell_slice, isCell_func, Bool.and_true, Bool.and_self, and_self, if_true, List.size_toArray, and_true, true_and, Nat.reduceLeDiff, Nat.le_refl, Bool.not_true, Bool.not_false, Bool.true_and, Bool.false_and, Bool.and_false, Int.reduceBNe, Int.reduceBEq, Int.reduceLT, Int.reduceLE, decide_true, decide_false]
  exact hR
theorem N_Len (h : NoneV H v) (hR : ∀ H', Ext [] H H' → R (iv 0) H') : EvF P N.sent_Log_Len #[v] H R := by
  refine sent_Log_Len_ev _ _ _ ?_
  have he : Ext [] H (newB H 23 #[v]) := (Ext.refl _ _).newB _ _
  have l0 : ldE false 1 (ptr H.size) (newB H 23 #[v]) = some v := ld_ptr blk_newB_self rfl
  simp only [sent_Log_Len_g5, sent_Log_Len_g6, sent_Log_Len]
  simp only [bnd_some, brV_t, brV_f, newE_u, pickE_t, pickE_f, nilV_p, faV_p, cells_int, cells_bool, cells_ptr, cells_slice, cells_func, cells_agg, bin_eql, bin_neq, bin_lss, bin_leq, bin_gtr, bin_geq, bin_eqlb, bin_neqb, bin_eqlp, bin_eqlp0, bin_neqp, bin_neqp0, bin_eqls, bin_eqls0, un_not, un_neg, len_s, ex_t, cv_i, callV_f, Option.bind_some, Option.map_some, Nat.zero_add, Nat.add_zero, Nat.reduceAdd, Nat.reduceMul, size_newB, size_setB, blk_newB_self, own_newB_self, setB_setB, List.getElem?_toArray, List.getElem?_cons_zero, List.getElem?_cons_succ, List.length_cons, List.length_nil, List.all_cons, List.all_nil, isCell_int, isCell_bool, isCell_ptr, isCell_slice, isCell_func, Bool.and_true, Bool.and_self, and_self, if_true, List.size_toArray, and_true, true_and, Nat.reduceLeDiff, Nat.le_refl, Bool.not_true, Bool.not_false, Bool.true_and, Bool.false_and, Bool.and_false, Int.reduceBNe, Int.reduceBEq, Int.reduceLT, Int.reduceLE, decide_true, decide_false, h.cell, l0]
  exact N_total (h.ext he) (hR _ he)
theorem N_Flight (h : NoneV H v) (hR : ∀ H', Ext [] H H' → R (iv 0) H') : EvF P N.sent_Log_Flight #[v] H R := by
  refine sent_Log_Flight_ev _ _ _ ?_
  have he : Ext [] H (newB H 23 #[v]) := (Ext.refl _ _).newB _ _
  have l0 : ldE false 1 (ptr H.size) (newB H 23 #[v]) = some v := ld_ptr blk_newB_self rfl
  simp only [sent_Log_Flight_g5, sent_Log_Flight_g6, sent_Log_Flight]
  simp only [bnd_some, brV_t, brV_f, newE_u, pickE_t, pickE_f, nilV_p, faV_p, cells_int, cells_bool, cells_ptr, cells_slice, cells_func, cells_agg, bin_eql, bin_neq, bin_lss, bin_leq, bin_gtr, bin_geq, bin_eqlb, bin_neqb, bin_eqlp, bin_eqlp0, bin_neqp, bin_neqp0, bin_eqls, bin_eqls0, un_not, un_neg, len_s, ex_t, cv_i, callV_f, Option.bind_some, Option.map_some, Nat.zero_add, Nat.add_zero, Nat.reduceAdd, Nat.reduceMul, size_newB, size_setB, blk_newB_self, own_newB_self, setB_setB, List.getElem?_toArray, List.getElem?_cons_zero, List.getElem?_cons_succ, List.length_cons, List.length_nil, List.all_cons, List.all_nil, isCell_int, isCell_bool, isCell_ptr, isCell_slice, isCell_func, Bool.and_true, Bool.and_self, and_self, if_true, List.size_toArray, and_true, true_and, Nat.reduceLeDiff, Nat.le_refl, Bool.not_true, Bool.not_false, Bool.true_and, Bool.false_and, Bool.and_false, Int.reduceBNe, Int.reduceBEq, Int.reduceLT, Int.reduceLE, decide_true, decide_false, h.cell, l0]
  exact N_total (h.ext he) (hR _ he)
theorem N_Eliciting (h : NoneV H v) (hR : ∀ H', Ext [] H H' → R (iv 0) H') : EvF P N.sent_Log_Eliciting #[v] H R := by
  refine sent_Log_Eliciting_ev _ _ _ ?_
  have he : Ext [] H (newB H 23 #[v]) := (Ext.refl _ _).newB _ _
  have l0 : ldE false 1 (ptr H.size) (newB H 23 #[v]) = some v := ld_ptr blk_newB_self rfl
  simp only [sent_Log_Eliciting_g5, sent_Log_Eliciting_g6, sent_Log_Eliciting]
  simp only [bnd_some, brV_t, brV_f, newE_u, pickE_t, pickE_f, nilV_p, faV_p, cells_int, cells_bool, cells_ptr, cells_slice, cells_func, cells_agg, bin_eql, bin_neq, bin_lss, bin_leq, bin_gtr, bin_geq, bin_eqlb, bin_neqb, bin_eqlp, bin_eqlp0, bin_neqp, bin_neqp0, bin_eqls, bin_eqls0, un_not, un_neg, len_s, ex_t, cv_i, callV_f, Option.bind_some, Option.map_some, Nat.zero_add, Nat.add_zero, Nat.reduceAdd, Nat.reduceMul, size_newB, size_setB, blk_newB_self, own_newB_self, setB_setB, List.getElem?_toArray, List.getElem?_cons_zero, List.getElem?_cons_succ, List.length_cons, List.length_nil, List.all_cons, List.all_nil, isCell_int, isCell_bool, isCell_ptr, isCell_slice, isCell_func, Bool.and_true, Bool.and_self, and_self, if_true, List.size_toArray, and_true, true_and, Nat.reduceLeDiff, Nat.le_refl, Bool.not_true, Bool.not_false, Bool.true_and, Bool.false_and, Bool.and_false, Int.reduceBNe, Int.reduceBEq, Int.reduceLT, Int.reduceLE, decide_true, decide_false, h.cell, l0]
  exact N_total (h.ext he) (hR _ he)
theorem N_Between {lo hi : Int} (h : NoneV H v) (hR : ∀ H', Ext [] H H' → R (.slice none 0 0) H') : EvF P N.sent_Log_Between #[v, iv lo, iv hi] H R := by
  refine sent_Log_Between_ev _ _ _ _ _ ?_
  have he : Ext [] H (newB H 70 #[.slice none 0 0]) := (Ext.refl _ _).newB _ _
  have l0 : ldE false 1 (ptr H.size) (newB H 70 #[.slice none 0 0]) = some (.slice none 0 0) := ld_ptr blk_newB_self rfl
  simp only [sent_Log_Between_g9, sent_Log_Between_g10, sent_Log_Between_g11, sent_Log_Between_g12, sent_Log_Between]
  simp only [bnd_some, brV_t, brV_f, newE_u, pickE_t, pickE_f, nilV_p, faV_p, cells_int, cells_bool, cells_ptr, cells_slice, cells_func, cells_agg, bin_eql, bin_neq, bin_lss, bin_leq, bin_gtr, bin_geq, bin_eqlb, bin_neqb, bin_eqlp, bin_eqlp0, bin_neqp, bin_neqp0, bin_eqls, bin_eqls0, un_not, un_neg, len_s, ex_t, cv_i, callV_f, Option.bind_some, Option.map_some, Nat.zero_add, Nat.add_zero, Nat.reduceAdd, Nat.reduceMul, size_newB, size_setB, blk_newB_self, own_newB_self, setB_setB, List.getElem?_toArray, List.getElem?_cons_zero, List.getElem?_cons_succ, List.length_cons, List.length_nil, List.all_cons, List.all_nil, isCell_int, isCell_bool, isCell_ptr, isCell_slice, isCell_func, Bool.and_true, Bool.and_self, and_self, if_true, List.size_toArray, and_true, true_and, Nat.reduceLeDiff, Nat.le_refl, Bool.not_true, Bool.not_false, Bool.true_and, Bool.false_and, Bool.and_false, Int.reduceBNe, Int.reduceBEq, Int.reduceLT, Int.reduceLE, decide_true, decide_false]
  refine sent_Log_each_ev _ _ _ _ _ _ ?_
  simp only [sent_Log_each, sent_Log_each_g23]
  refine N_none (h.ext he) ?_
  simp only [bnd_some, brV_t, brV_f, newE_u, pickE_t, pickE_f, nilV_p, faV_p, cells_int, cells_bool, cells_ptr, cells_slice, cells_func, cells_agg, bin_eql, bin_neq, bin_lss, bin_leq, bin_gtr, bin_geq, bin_eqlb, bin_neqb, bin_eqlp, bin_eqlp0, bin_neqp, bin_neqp0, bin_eqls, bin_eqls0, un_not, un_neg, len_s, ex_t, cv_i, callV_f, Option.bind_some, Option.map_some, Nat.zero_add, Nat.add_zero, Nat.reduceAdd, Nat.reduceMul, size_newB, size_setB, blk_newB_self, own_newB_self, setB_setB, List.getElem?_toArray, List.getElem?_cons_zero, List.getElem?_cons_succ, List.length_cons, List.length_nil, List.all_cons, List.all_nil, isCell_int, isCell_bool, isCell_ptr, isCell_slice, isCell_func, Bool.and_true, Bool.and_self, and_self, if_true, List.size_toArray, and_true, true_and, Nat.reduceLeDiff, Nat.le_refl, Bool.not_true, Bool.not_false, Bool.true_and, Bool.false_and, Bool.and_false, Int.reduceBNe, Int.reduceBEq, Int.reduceLT, Int.reduceLE, decide_true, decide_false, l0]
  exact hR _ he
theorem N_All (h : NoneV H v) (hR : ∀ H', Ext [] H H' → R (.slice none 0 0) H') : EvF P N.sent_Log_All #[v] H R := by
  refine sent_Log_All_ev _ _ _ ?_
  simp only [sent_Log_All_g5, sent_Log_All_g6, sent_Log_All]
  exact N_Between h hR
theorem N_Copy (h : NoneV H v) (hR : R (.pointer none) H) : EvF P N.sent_Log_Copy #[v] H R := by
  refine sent_Log_Copy_ev _ _ _ ?_
  simp only [sent_Log_Copy_g15, sent_Log_Copy_g16, sent_Log_Copy_g17, sent_Log_Copy_g18, sent_Log_Copy_g19, sent_Log_Copy_g20, sent_Log_Copy]
  refine N_none h ?_
  simp only [bnd_some, brV_t, brV_f, newE_u, pickE_t, pickE_f, nilV_p, faV_p, cells_int, cells_bool, cells_ptr, cells_slice, cells_func, cells_agg, bin_eql, bin_neq, bin_lss, bin_leq, bin_gtr, bin_geq, bin_eqlb, bin_neqb, bin_eqlp, bin_eqlp0, bin_neqp, bin_neqp0, bin_eqls, bin_eqls0, un_not, un_neg, len_s, ex_t, cv_i, callV_f, Option.bind_some, Option.map_some, Nat.zero_add, Nat.add_zero, Nat.reduceAdd, Nat.reduceMul, size_newB, size_setB, blk_newB_self, own_newB_self, setB_setB, List.getElem?_toArray, List.getElem?_cons_zero, List.getElem?_cons_succ, List.length_cons, List.length_nil, List.all_cons, List.all_nil, isCell_int, isCell_bool, isCell_ptr, isCell_slice, isCell_func, Bool.and_true, Bool.and_self, and_self, if_true, List.size_toArray, and_true, true_and, Nat.reduceLeDiff, Nat.le_refl, Bool.not_true, Bool.not_false, Bool.true_and, Bool.false_and, Bool.and_false, Int.reduceBNe, Int.reduceBEq, Int.reduceLT, Int.reduceLE, decide_true, decide_false]
  exact hR
end
theorem ShowL.toA {A : Type} {E : Enc A} {H : Heap} {v : Value} {l : List A} (h : ShowL E H v l) : ShowA E H v l := by
  obtain ⟨b, c, hv, hm, hr⟩ := h
  exact ⟨⟨b, c, hv, hm⟩, Or.inr ⟨b, c, hv, hm, hr⟩⟩
structure KF (H : Heap) (x4 x5 b1 o1 b2 o2 : Nat) (p q : Pkt) (e f : Int) : Prop where
  f4 : ldE true 6 (.pointer (some ⟨x4, 0, none⟩)) H = some (pv p)
  f5 : ldE true 6 (.pointer (some ⟨x5, 0, none⟩)) H = some (pv q)
  g1 : ldE false 1 (.pointer (some ⟨b1, o1, none⟩)) H = some (iv e)
  g2 : ldE false 1 (.pointer (some ⟨b2, o2, none⟩)) H = some (iv f)
theorem KF.ext {H H' : Heap} {x4 x5 b1 o1 b2 o2 : Nat} {p q : Pkt} {e f : Int} (s : KF H x4 x5 b1 o1 b2 o2 p q e f) (he : Ext [] H H') : KF H' x4 x5 b1 o1 b2 o2 p q e f :=
  ⟨ld_ext he s.f4, ld_ext he s.f5, ld_ext he s.g1, ld_ext he s.g2⟩
def ends : List Int := [-9223372036854775808, -1, 0, 1, 255, 256, 257, 65535, 65536, 9007199254740991, 9007199254740992, 9223372036854775807]
theorem ends_in : ∀ x ∈ ends, In64 x := by simp [ends, In64]
theorem do0_C : (#[.int .i64 0, .int .i64 0, .int .i64 0, .int .i64 0, .int .i64 0, .int .i64 0, .bool false, .bool false, .bool false] : Array Value) = doE.z := rfl
theorem in0 : In64 0 := by simp [In64]
theorem inS {n : Int} (h : 0 ≤ n ∧ n ≤ 100) : In64 n := by unfold In64; omega

set_option maxHeartbeats 1600000 in
set_option maxRecDepth 20000 in
/-- one pair of ends -/
theorem Known_pair {H : Heap} {x1 : Value} {x2 x3 : Value} {b1 o1 b2 o2 : Nat} {e f : Int} {S : Value → Value → Value → Value → Heap → Prop} {x4 x5 : Nat} (he64 : In64 e) (hf64 : In64 f)
    (hx2 : ixSV 1 x1 x2 = some (.pointer (some ⟨b1, o1, none⟩))) (hx3 : ixSV 1 x1 x3 = some (.pointer (some ⟨b2, o2, none⟩))) {p q : Pkt} (s : KF H x4 x5 b1 o1 b2 o2 p q e f)
    (hS : ∀ H', Ext [] H H' → S x1 x2 x3 (.bool false) H') : sounderlaw06_SentKnown_g81 S x1 x2 x3 (ptr x4) (ptr x5) H := by
  simp only [sounderlaw06_SentKnown_g81]
  have bld : ∀ r : Pkt, buildV doE.z (places [(0, 1), (1, 1), (2, 1), (3, 6)]) [(3, pv r)] = some (.agg (doC ⟨0, 0, 0, r⟩)) := fun r => rfl
  have bld7 : buildV doE.z (places [(0, 1), (1, 1), (2, 1), (3, 6)]) [(0, (.int .i64 7)), (1, iv e), (2, iv f)] = some (.agg (doC ⟨7, e, f, pkt0⟩)) := rfl
  have bld6 : buildV doE.z (places [(0, 1), (1, 1), (2, 1), (3, 6)]) [(0, (.int .i64 6)), (1, iv e)] = some (.agg (doC ⟨6, e, 0, pkt0⟩)) := rfl
  have bld4 : buildV doE.z (places [(0, 1), (1, 1), (2, 1), (3, 6)]) [(0, (.int .i64 4)), (1, iv e)] = some (.agg (doC ⟨4, e, 0, pkt0⟩)) := rfl
  have bld15 : buildV doE.z (places [(0, 1), (1, 1), (2, 1), (3, 6)]) [(0, (.int .i64 15))] = some (.agg (doC ⟨15, 0, 0, pkt0⟩)) := rfl
  simp only [bnd_some, brV_t, brV_f, newE_u, pickE_t, pickE_f, nilV_p, faV_p, cells_int, cells_bool, cells_ptr, cells_slice, cells_func, cells_agg, bin_eql, bin_neq, bin_lss, bin_leq, bin_gtr, bin_geq, bin_eqlb, bin_neqb, bin_eqlp, bin_eqlp0, bin_neqp, bin_neqp0, bin_eqls, bin_eqls0, un_not, un_neg, len_s, ex_t, cv_i, callV_f, Option.bind_some, Option.map_some, Nat.zero_add, Nat.add_zero, Nat.reduceAdd, Nat.reduceMul, size_newB, size_setB, blk_newB_self, own_newB_self, setB_setB, List.getElem?_toArray, List.getElem?_cons_zero, List.getElem?_cons_succ, List.length_cons, List.length_nil, List.all_cons, List.all_nil, isCell_int, isCell_bool, isCell_ptr, isCell_slice, isCell_func, Bool.and_true, Bool.and_self, and_self, if_true, List.size_toArray, and_true, true_and, Nat.reduceLeDiff, Nat.le_refl, Bool.not_true, Bool.not_false, Bool.true_and, Bool.false_and, Bool.and_false, Int.reduceBNe, Int.reduceBEq, Int.reduceLT, Int.reduceLE, decide_true, decide_false, do0_C, s.f4, s.f5, hx2, hx3, s.g1, s.g2, bld, bld7, bld6, bld4, bld15]
  refine one_ev fun H1 he1 => ?_
  replace s := s.ext he1
  simp only [bnd_some, brV_t, brV_f, newE_u, pickE_t, pickE_f, nilV_p, faV_p, cells_int, cells_bool, cells_ptr, cells_slice, cells_func, cells_agg, bin_eql, bin_neq, bin_lss, bin_leq, bin_gtr, bin_geq, bin_eqlb, bin_neqb, bin_eqlp, bin_eqlp0, bin_neqp, bin_neqp0, bin_eqls, bin_eqls0, un_not, un_neg, len_s, ex_t, cv_i, callV_f, Option.bind_some, Option.map_some, Nat.zero_add, Nat.add_zero, Nat.reduceAdd, Nat.reduceMul, size_newB, size_setB, blk_newB_self, own_newB_self, setB_setB, List.getElem?_toArray, List.getElem?_cons_zero, List.getElem?_cons_succ, List.length_cons, List.length_nil, List.all_cons, List.all_nil, isCell_int, isCell_bool, isCell_ptr, isCell_slice, isCell_func, Bool.and_true, Bool.and_self, and_self, if_true, List.size_toArray, and_true, true_and, Nat.reduceLeDiff, Nat.le_refl, Bool.not_true, Bool.not_false, Bool.true_and, Bool.false_and, Bool.and_false, Int.reduceBNe, Int.reduceBEq, Int.reduceLT, Int.reduceLE, decide_true, decide_false, do0_C, s.f4, s.f5, s.g1, s.g2, bld]
  refine bslE_n (E := doE) (vs := [.agg (doC ⟨0, 0, 0, p⟩), .agg (doC ⟨0, 0, 0, oneP 9⟩), .agg (doC ⟨7, e, f, pkt0⟩), .agg (doC ⟨0, 0, 0, q⟩), .agg (doC ⟨6, e, 0, pkt0⟩), .agg (doC ⟨4, e, 0, pkt0⟩), .agg (doC ⟨15, 0, 0, pkt0⟩), .agg (doC ⟨0, 0, 0, p⟩)])
    (l := [⟨0, 0, 0, p⟩, ⟨0, 0, 0, oneP 9⟩, ⟨7, e, f, pkt0⟩, ⟨0, 0, 0, q⟩, ⟨6, e, 0, pkt0⟩, ⟨4, e, 0, pkt0⟩, ⟨15, 0, 0, pkt0⟩, ⟨0, 0, 0, p⟩]) rfl rfl (by decide) (by decide) fun H2 v69 he2 ho2 => ?_
  replace s := s.ext he2
  simp only [bnd_some, brV_t, brV_f, newE_u, pickE_t, pickE_f, nilV_p, faV_p, cells_int, cells_bool, cells_ptr, cells_slice, cells_func, cells_agg, bin_eql, bin_neq, bin_lss, bin_leq, bin_gtr, bin_geq, bin_eqlb, bin_neqb, bin_eqlp, bin_eqlp0, bin_neqp, bin_neqp0, bin_eqls, bin_eqls0, un_not, un_neg, len_s, ex_t, cv_i, callV_f, Option.bind_some, Option.map_some, Nat.zero_add, Nat.add_zero, Nat.reduceAdd, Nat.reduceMul, size_newB, size_setB, blk_newB_self, own_newB_self, setB_setB, List.getElem?_toArray, List.getElem?_cons_zero, List.getElem?_cons_succ, List.length_cons, List.length_nil, List.all_cons, List.all_nil, isCell_int, isCell_bool, isCell_ptr, isCell_slice, isCell_func, Bool.and_true, Bool.and_self, and_self, if_true, List.size_toArray, and_true, true_and, Nat.reduceLeDiff, Nat.le_refl, Bool.not_true, Bool.not_false, Bool.true_and, Bool.false_and, Bool.and_false, Int.reduceBNe, Int.reduceBEq, Int.reduceLT, Int.reduceLE, decide_true, decide_false, do0_C, s.f4, s.f5, s.g1, s.g2]
  refine Plays_ev ho2.show.toA ?_ fun H3 he3 => ?_
  · intro d hd
    have z := in0
    simp only [List.mem_cons, List.not_mem_nil, or_false] at hd
    rcases hd with rfl | rfl | rfl | rfl | rfl | rfl | rfl | rfl
    · exact ⟨z, z, z⟩
    · exact ⟨z, z, z⟩
    · exact ⟨inS (n := 7) (by omega), he64, hf64⟩
    · exact ⟨z, z, z⟩
    · exact ⟨inS (n := 6) (by omega), he64, z⟩
    · exact ⟨inS (n := 4) (by omega), he64, z⟩
    · exact ⟨inS (n := 15) (by omega), z, z⟩
    · exact ⟨z, z, z⟩
  replace s := s.ext he3
  simp only [bnd_some, brV_t, brV_f, newE_u, pickE_t, pickE_f, nilV_p, faV_p, cells_int, cells_bool, cells_ptr, cells_slice, cells_func, cells_agg, bin_eql, bin_neq, bin_lss, bin_leq, bin_gtr, bin_geq, bin_eqlb, bin_neqb, bin_eqlp, bin_eqlp0, bin_neqp, bin_neqp0, bin_eqls, bin_eqls0, un_not, un_neg, len_s, ex_t, cv_i, callV_f, Option.bind_some, Option.map_some, Nat.zero_add, Nat.add_zero, Nat.reduceAdd, Nat.reduceMul, size_newB, size_setB, blk_newB_self, own_newB_self, setB_setB, List.getElem?_toArray, List.getElem?_cons_zero, List.getElem?_cons_succ, List.length_cons, List.length_nil, List.all_cons, List.all_nil, isCell_int, isCell_bool, isCell_ptr, isCell_slice, isCell_func, Bool.and_true, Bool.and_self, and_self, if_true, List.size_toArray, and_true, true_and, Nat.reduceLeDiff, Nat.le_refl, Bool.not_true, Bool.not_false, Bool.true_and, Bool.false_and, Bool.and_false, Int.reduceBNe, Int.reduceBEq, Int.reduceLT, Int.reduceLE, decide_true, decide_false, do0_C, s.f4, s.f5, hx2, s.g1, s.g2, bld]
  refine bslE_n (E := doE) (vs := [.agg (doC ⟨0, 0, 0, p⟩)]) (l := [⟨0, 0, 0, p⟩]) rfl rfl (by decide) (by decide) fun H4 v79 he4 ho4 => ?_
  replace s := s.ext he4
  simp only [bnd_some, brV_t, brV_f, newE_u, pickE_t, pickE_f, nilV_p, faV_p, cells_int, cells_bool, cells_ptr, cells_slice, cells_func, cells_agg, bin_eql, bin_neq, bin_lss, bin_leq, bin_gtr, bin_geq, bin_eqlb, bin_neqb, bin_eqlp, bin_eqlp0, bin_neqp, bin_neqp0, bin_eqls, bin_eqls0, un_not, un_neg, len_s, ex_t, cv_i, callV_f, Option.bind_some, Option.map_some, Nat.zero_add, Nat.add_zero, Nat.reduceAdd, Nat.reduceMul, size_newB, size_setB, blk_newB_self, own_newB_self, setB_setB, List.getElem?_toArray, List.getElem?_cons_zero, List.getElem?_cons_succ, List.length_cons, List.length_nil, List.all_cons, List.all_nil, isCell_int, isCell_bool, isCell_ptr, isCell_slice, isCell_func, Bool.and_true, Bool.and_self, and_self, if_true, List.size_toArray, and_true, true_and, Nat.reduceLeDiff, Nat.le_refl, Bool.not_true, Bool.not_false, Bool.true_and, Bool.false_and, Bool.and_false, Int.reduceBNe, Int.reduceBEq, Int.reduceLT, Int.reduceLE, decide_true, decide_false, do0_C, s.f4, s.f5, s.g1, s.g2]
  refine Plays_ev ho4.show.toA ?_ fun H5 he5 => ?_
  · intro d hd
    have z := in0
    simp only [List.mem_cons, List.not_mem_nil, or_false] at hd
    subst hd
    exact ⟨z, z, z⟩
  replace s := s.ext he5
  simp only [bnd_some, brV_t, brV_f, newE_u, pickE_t, pickE_f, nilV_p, faV_p, cells_int, cells_bool, cells_ptr, cells_slice, cells_func, cells_agg, bin_eql, bin_neq, bin_lss, bin_leq, bin_gtr, bin_geq, bin_eqlb, bin_neqb, bin_eqlp, bin_eqlp0, bin_neqp, bin_neqp0, bin_eqls, bin_eqls0, un_not, un_neg, len_s, ex_t, cv_i, callV_f, Option.bind_some, Option.map_some, Nat.zero_add, Nat.add_zero, Nat.reduceAdd, Nat.reduceMul, size_newB, size_setB, blk_newB_self, own_newB_self, setB_setB, List.getElem?_toArray, List.getElem?_cons_zero, List.getElem?_cons_succ, List.length_cons, List.length_nil, List.all_cons, List.all_nil, isCell_int, isCell_bool, isCell_ptr, isCell_slice, isCell_func, Bool.and_true, Bool.and_self, and_self, if_true, List.size_toArray, and_true, true_and, Nat.reduceLeDiff, Nat.le_refl, Bool.not_true, Bool.not_false, Bool.true_and, Bool.false_and, Bool.and_false, Int.reduceBNe, Int.reduceBEq, Int.reduceLT, Int.reduceLE, decide_true, decide_false, do0_C, s.f4, s.f5, s.g1, s.g2]
  exact hS H5 ((((he1.trans he2).trans he3).trans he4).trans he5)

set_option maxHeartbeats 1600000 in
set_option maxRecDepth 20000 in
/-- the logs that are none -/
theorem Known_none {H : Heap} {R : Value → Heap → Prop} (hR : ∀ H', Ext [] H H' → R (.bool true) H') :
    sounderlaw06_SentKnown_g94 (fun x6 H => sounderlaw06_SentKnown_g95 (fun x6 x7 H => sounderlaw06_SentKnown_l110 x6 x7 R H) x6 H) H := by
  simp only [sounderlaw06_SentKnown_g94, sounderlaw06_SentKnown_g95, sounderlaw06_SentKnown_l110]
  refine ⟨fun w6 w7 H' => Ext [] H H' ∧ NoneV H' w6 ∧ ∃ i : Nat, w7 = iv i ∧ i ≤ 2, fun _ w _ => (match w with | Value.int _ i => (2 - i).toNat | _ => 0), ⟨Ext.refl _ _, Or.inl rfl, 0, rfl, by omega⟩, ?_⟩
  rintro w6 w7 H1 ⟨he, hn, i, rfl, hi⟩
  simp only [sounderlaw06_SentKnown_s96, sounderlaw06_SentKnown_g97, sounderlaw06_SentKnown_g98, sounderlaw06_SentKnown_g99, sounderlaw06_SentKnown_g100, sounderlaw06_SentKnown_g101, sounderlaw06_SentKnown_g102, sounderlaw06_SentKnown_g103, sounderlaw06_SentKnown_g104, sounderlaw06_SentKnown_g105, sounderlaw06_SentKnown_g106, sounderlaw06_SentKnown]
  have w1 : binV .int .add (iv i) (.int .i64 1) = some (iv ((i + 1 : Nat) : Int)) := by rw [bin_addw (by omega)]; rfl
  simp only [bnd_some, brV_t, brV_f, newE_u, pickE_t, pickE_f, nilV_p, faV_p, cells_int, cells_bool, cells_ptr, cells_slice, cells_func, cells_agg, bin_eql, bin_neq, bin_lss, bin_leq, bin_gtr, bin_geq, bin_eqlb, bin_neqb, bin_eqlp, bin_eqlp0, bin_neqp, bin_neqp0, bin_eqls, bin_eqls0, un_not, un_neg, len_s, ex_t, cv_i, callV_f, Option.bind_some, Option.map_some, Nat.zero_add, Nat.add_zero, Nat.reduceAdd, Nat.reduceMul, size_newB, size_setB, blk_newB_self, own_newB_self, setB_setB, List.getElem?_toArray, List.getElem?_cons_zero, List.getElem?_cons_succ, List.length_cons, List.length_nil, List.all_cons, List.all_nil, isCell_int, isCell_bool, isCell_ptr, isCell_slice, isCell_func, Bool.and_true, Bool.and_self, and_self, if_true, List.size_toArray, and_true, true_and, Nat.reduceLeDiff, Nat.le_refl, Bool.not_true, Bool.not_false, Bool.true_and, Bool.false_and, Bool.and_false, Int.reduceBNe, Int.reduceBEq, Int.reduceLT, Int.reduceLE, decide_true, decide_false]
  refine brV_d (fun hlt => ?_) (fun hlt => ?_)
  · refine N_Get hn fun H2 he2 => ?_
    replace he := he.trans he2
    replace hn := hn.ext he2
    simp only [bnd_some, brV_t, brV_f, newE_u, pickE_t, pickE_f, nilV_p, faV_p, cells_int, cells_bool, cells_ptr, cells_slice, cells_func, cells_agg, bin_eql, bin_neq, bin_lss, bin_leq, bin_gtr, bin_geq, bin_eqlb, bin_neqb, bin_eqlp, bin_eqlp0, bin_neqp, bin_neqp0, bin_eqls, bin_eqls0, un_not, un_neg, len_s, ex_t, cv_i, callV_f, Option.bind_some, Option.map_some, Nat.zero_add, Nat.add_zero, Nat.reduceAdd, Nat.reduceMul, size_newB, size_setB, blk_newB_self, own_newB_self, setB_setB, List.getElem?_toArray, List.getElem?_cons_zero, List.getElem?_cons_succ, List.length_cons, List.length_nil, List.all_cons, List.all_nil, isCell_int, isCell_bool, isCell_ptr, isCell_slice, isCell_func, Bool.and_true, Bool.and_self, and_self, if_true, List.size_toArray, and_true, true_and, Nat.reduceLeDiff, Nat.le_refl, Bool.not_true, Bool.not_false, Bool.true_and, Bool.false_and, Bool.and_false, Int.reduceBNe, Int.reduceBEq, Int.reduceLT, Int.reduceLE, decide_true, decide_false, pkt0_C]
    have er := Ext.refl [] (newB H2 30 (pktC pkt0))
    simp only [st_pkt er, bnd_some]
    have he3 := ext_pkt (q := pkt0) er
    generalize setB (newB H2 30 (pktC pkt0)) H2.size (pktC pkt0) = H3 at he3
    replace he := he.trans he3
    replace hn := hn.ext he3
    refine N_Drop hn fun H4 he4 => ?_
    replace he := he.trans he4
    replace hn := hn.ext he4
    simp only [bnd_some, brV_t, brV_f, newE_u, pickE_t, pickE_f, nilV_p, faV_p, cells_int, cells_bool, cells_ptr, cells_slice, cells_func, cells_agg, bin_eql, bin_neq, bin_lss, bin_leq, bin_gtr, bin_geq, bin_eqlb, bin_neqb, bin_eqlp, bin_eqlp0, bin_neqp, bin_neqp0, bin_eqls, bin_eqls0, un_not, un_neg, len_s, ex_t, cv_i, callV_f, Option.bind_some, Option.map_some, Nat.zero_add, Nat.add_zero, Nat.reduceAdd, Nat.reduceMul, size_newB, size_setB, blk_newB_self, own_newB_self, setB_setB, List.getElem?_toArray, List.getElem?_cons_zero, List.getElem?_cons_succ, List.length_cons, List.length_nil, List.all_cons, List.all_nil, isCell_int, isCell_bool, isCell_ptr, isCell_slice, isCell_func, Bool.and_true, Bool.and_self, and_self, if_true, List.size_toArray, and_true, true_and, Nat.reduceLeDiff, Nat.le_refl, Bool.not_true, Bool.not_false, Bool.true_and, Bool.false_and, Bool.and_false, Int.reduceBNe, Int.reduceBEq, Int.reduceLT, Int.reduceLE, decide_true, decide_false, pkt0_C]
    have er := Ext.refl [] (newB H4 30 (pktC pkt0))
    simp only [st_pkt er, bnd_some]
    have he5 := ext_pkt (q := pkt0) er
    generalize setB (newB H4 30 (pktC pkt0)) H4.size (pktC pkt0) = H5 at he5
    replace he := he.trans he5
    replace hn := hn.ext he5
    refine N_Oldest hn fun H6 he6 => ?_
    replace he := he.trans he6
    replace hn := hn.ext he6
    simp only [bnd_some, brV_t, brV_f, newE_u, pickE_t, pickE_f, nilV_p, faV_p, cells_int, cells_bool, cells_ptr, cells_slice, cells_func, cells_agg, bin_eql, bin_neq, bin_lss, bin_leq, bin_gtr, bin_geq, bin_eqlb, bin_neqb, bin_eqlp, bin_eqlp0, bin_neqp, bin_neqp0, bin_eqls, bin_eqls0, un_not, un_neg, len_s, ex_t, cv_i, callV_f, Option.bind_some, Option.map_some, Nat.zero_add, Nat.add_zero, Nat.reduceAdd, Nat.reduceMul, size_newB, size_setB, blk_newB_self, own_newB_self, setB_setB, List.getElem?_toArray, List.getElem?_cons_zero, List.getElem?_cons_succ, List.length_cons, List.length_nil, List.all_cons, List.all_nil, isCell_int, isCell_bool, isCell_ptr, isCell_slice, isCell_func, Bool.and_true, Bool.and_self, and_self, if_true, List.size_toArray, and_true, true_and, Nat.reduceLeDiff, Nat.le_refl, Bool.not_true, Bool.not_false, Bool.true_and, Bool.false_and, Bool.and_false, Int.reduceBNe, Int.reduceBEq, Int.reduceLT, Int.reduceLE, decide_true, decide_false, pkt0_C]
    have er := Ext.refl [] (newB H6 30 (pktC pkt0))
    simp only [st_pkt er, bnd_some]
    have he7 := ext_pkt (q := pkt0) er
    generalize setB (newB H6 30 (pktC pkt0)) H6.size (pktC pkt0) = H7 at he7
    replace he := he.trans he7
    replace hn := hn.ext he7
    refine N_Clear hn ?_
    refine one_ev fun H8 he8 => ?_
    replace he := he.trans he8
    replace hn := hn.ext he8
    refine N_Put hn fun H9 he9 => ?_
    replace he := he.trans he9
    replace hn := hn.ext he9
    simp only [bnd_some, brV_t, brV_f, newE_u, pickE_t, pickE_f, nilV_p, faV_p, cells_int, cells_bool, cells_ptr, cells_slice, cells_func, cells_agg, bin_eql, bin_neq, bin_lss, bin_leq, bin_gtr, bin_geq, bin_eqlb, bin_neqb, bin_eqlp, bin_eqlp0, bin_neqp, bin_neqp0, bin_eqls, bin_eqls0, un_not, un_neg, len_s, ex_t, cv_i, callV_f, Option.bind_some, Option.map_some, Nat.zero_add, Nat.add_zero, Nat.reduceAdd, Nat.reduceMul, size_newB, size_setB, blk_newB_self, own_newB_self, setB_setB, List.getElem?_toArray, List.getElem?_cons_zero, List.getElem?_cons_succ, List.length_cons, List.length_nil, List.all_cons, List.all_nil, isCell_int, isCell_bool, isCell_ptr, isCell_slice, isCell_func, Bool.and_true, Bool.and_self, and_self, if_true, List.size_toArray, and_true, true_and, Nat.reduceLeDiff, Nat.le_refl, Bool.not_true, Bool.not_false, Bool.true_and, Bool.false_and, Bool.and_false, Int.reduceBNe, Int.reduceBEq, Int.reduceLT, Int.reduceLE, decide_true, decide_false]
    refine N_Last hn ?_
    simp only [bnd_some, brV_t, brV_f, newE_u, pickE_t, pickE_f, nilV_p, faV_p, cells_int, cells_bool, cells_ptr, cells_slice, cells_func, cells_agg, bin_eql, bin_neq, bin_lss, bin_leq, bin_gtr, bin_geq, bin_eqlb, bin_neqb, bin_eqlp, bin_eqlp0, bin_neqp, bin_neqp0, bin_eqls, bin_eqls0, un_not, un_neg, len_s, ex_t, cv_i, callV_f, Option.bind_some, Option.map_some, Nat.zero_add, Nat.add_zero, Nat.reduceAdd, Nat.reduceMul, size_newB, size_setB, blk_newB_self, own_newB_self, setB_setB, List.getElem?_toArray, List.getElem?_cons_zero, List.getElem?_cons_succ, List.length_cons, List.length_nil, List.all_cons, List.all_nil, isCell_int, isCell_bool, isCell_ptr, isCell_slice, isCell_func, Bool.and_true, Bool.and_self, and_self, if_true, List.size_toArray, and_true, true_and, Nat.reduceLeDiff, Nat.le_refl, Bool.not_true, Bool.not_false, Bool.true_and, Bool.false_and, Bool.and_false, Int.reduceBNe, Int.reduceBEq, Int.reduceLT, Int.reduceLE, decide_true, decide_false]
    refine N_Len hn fun H10 he10 => ?_
    replace he := he.trans he10
    replace hn := hn.ext he10
    refine N_Flight hn fun H11 he11 => ?_
    replace he := he.trans he11
    replace hn := hn.ext he11
    have w0 : binV .int .add (iv 0) (iv 0) = some (iv 0) := bin_addw (by omega)
    have w00 : binV .int .add (iv 0) (.int .i64 ((0 : Nat) : Int)) = some (iv 0) := bin_addw (by omega)
    simp only [w0, bnd_some]
    refine N_Eliciting hn fun H12 he12 => ?_
    replace he := he.trans he12
    replace hn := hn.ext he12
    simp only [w0, bnd_some]
    refine N_All hn fun H13 he13 => ?_
    replace he := he.trans he13
    replace hn := hn.ext he13
    simp only [len_s, w00, bnd_some]
    refine N_Between hn fun H14 he14 => ?_
    replace he := he.trans he14
    replace hn := hn.ext he14
    simp only [len_s, w00, bnd_some, brV_t, brV_f, newE_u, pickE_t, pickE_f, nilV_p, faV_p, cells_int, cells_bool, cells_ptr, cells_slice, cells_func, cells_agg, bin_eql, bin_neq, bin_lss, bin_leq, bin_gtr, bin_geq, bin_eqlb, bin_neqb, bin_eqlp, bin_eqlp0, bin_neqp, bin_neqp0, bin_eqls, bin_eqls0, un_not, un_neg, len_s, ex_t, cv_i, callV_f, Option.bind_some, Option.map_some, Nat.zero_add, Nat.add_zero, Nat.reduceAdd, Nat.reduceMul, size_newB, size_setB, blk_newB_self, own_newB_self, setB_setB, List.getElem?_toArray, List.getElem?_cons_zero, List.getElem?_cons_succ, List.length_cons, List.length_nil, List.all_cons, List.all_nil, isCell_int, isCell_bool, isCell_ptr, isCell_slice, isCell_func, Bool.and_true, Bool.and_self, and_self, if_true, List.size_toArray, and_true, true_and, Nat.reduceLeDiff, Nat.le_refl, Bool.not_true, Bool.not_false, Bool.true_and, Bool.false_and, Bool.and_false, Int.reduceBNe, Int.reduceBEq, Int.reduceLT, Int.reduceLE, decide_true, decide_false]
    refine N_Copy hn ?_
    have hb : buildV #[(.int .i64 0), (.int .i64 0), (.slice none 0 0), (.int .i64 0), (.int .i64 0), (.int .i64 0), (.int .i64 0), (.int .i64 0)] (places [(0, 1), (1, 1), (2, 1), (3, 1), (4, 1), (5, 1), (6, 1), (7, 1)]) [] =
        some (.agg #[(.int .i64 0), (.int .i64 0), (.slice none 0 0), (.int .i64 0), (.int .i64 0), (.int .i64 0), (.int .i64 0), (.int .i64 0)]) := rfl
    simp only [bnd_some, brV_t, brV_f, newE_u, pickE_t, pickE_f, nilV_p, faV_p, cells_int, cells_bool, cells_ptr, cells_slice, cells_func, cells_agg, bin_eql, bin_neq, bin_lss, bin_leq, bin_gtr, bin_geq, bin_eqlb, bin_neqb, bin_eqlp, bin_eqlp0, bin_neqp, bin_neqp0, bin_eqls, bin_eqls0, un_not, un_neg, len_s, ex_t, cv_i, callV_f, Option.bind_some, Option.map_some, Nat.zero_add, Nat.add_zero, Nat.reduceAdd, Nat.reduceMul, size_newB, size_setB, blk_newB_self, own_newB_self, setB_setB, List.getElem?_toArray, List.getElem?_cons_zero, List.getElem?_cons_succ, List.length_cons, List.length_nil, List.all_cons, List.all_nil, isCell_int, isCell_bool, isCell_ptr, isCell_slice, isCell_func, Bool.and_true, Bool.and_self, and_self, if_true, List.size_toArray, and_true, true_and, Nat.reduceLeDiff, Nat.le_refl, Bool.not_true, Bool.not_false, Bool.true_and, Bool.false_and, Bool.and_false, Int.reduceBNe, Int.reduceBEq, Int.reduceLT, Int.reduceLE, decide_true, decide_false, Option.isNone_none, hb, w1]
    exact ⟨⟨he.newB _ _, Or.inr ⟨_, _, rfl, blk_newB_self, rfl⟩, i + 1, rfl, by omega⟩, by omega⟩
  · exact works_ev fun H2 he2 => hR H2 (he.trans he2)

set_option maxHeartbeats 1600000 in
set_option maxRecDepth 20000 in
theorem Known_ev {H : Heap} {R : Value → Heap → Prop} (hR : ∀ H', Ext [] H H' → R (.bool true) H') : EvF P N.sounderlaw06_SentKnown #[] H R := by
  refine sounderlaw06_SentKnown_ev _ _ ?_
  simp only [sounderlaw06_SentKnown, sounderlaw06_SentKnown_g71, sounderlaw06_SentKnown_g72, sounderlaw06_SentKnown_g73, sounderlaw06_SentKnown_l111]
  refine bslE_n (E := intE) (vs := ends.map iv) (l := ends) rfl rfl (by decide) (by decide) fun H1 x1 he1 ho1 => ?_
  have hs := ho1.show
  have hlen : ends.length = 12 := rfl
  have get : ∀ i : Nat, i < 12 → ∃ b o e, In64 e ∧ ixSV 1 x1 (iv i) = some (.pointer (some ⟨b, o, none⟩)) ∧ ldE false 1 (.pointer (some ⟨b, o, none⟩)) H1 = some (iv e) := fun i hi => by
    obtain ⟨b, o, c, hx, hc, hcell, _⟩ := hs.ix (by decide) (i := i) (by omega) (j := i) rfl
    exact ⟨b, o, _, ends_in _ (List.getElem_mem (show i < ends.length by omega)), hx, ld_ptr hc (hcell 0 (by decide))⟩
  refine ⟨fun w2 H' => Ext [] H1 H' ∧ ∃ i : Nat, w2 = iv i ∧ i ≤ 12, fun w _ => (match w with | Value.int _ i => (12 - i).toNat | _ => 0), ⟨Ext.refl _ _, 0, rfl, by omega⟩, ?_⟩
  rintro w2 H2 ⟨he2, i, rfl, hi⟩
  simp only [sounderlaw06_SentKnown_s74, sounderlaw06_SentKnown_g75, sounderlaw06_SentKnown_g76, sounderlaw06_SentKnown_l93]
  have w1 : ∀ i : Nat, i ≤ 12 → binV .int .add (iv i) (.int .i64 1) = some (iv ((i + 1 : Nat) : Int)) := fun i hi => by rw [bin_addw (by omega)]; rfl
  simp only [bnd_some, brV_t, brV_f, newE_u, pickE_t, pickE_f, nilV_p, faV_p, cells_int, cells_bool, cells_ptr, cells_slice, cells_func, cells_agg, bin_eql, bin_neq, bin_lss, bin_leq, bin_gtr, bin_geq, bin_eqlb, bin_neqb, bin_eqlp, bin_eqlp0, bin_neqp, bin_neqp0, bin_eqls, bin_eqls0, un_not, un_neg, len_s, ex_t, cv_i, callV_f, Option.bind_some, Option.map_some, Nat.zero_add, Nat.add_zero, Nat.reduceAdd, Nat.reduceMul, size_newB, size_setB, blk_newB_self, own_newB_self, setB_setB, List.getElem?_toArray, List.getElem?_cons_zero, List.getElem?_cons_succ, List.length_cons, List.length_nil, List.all_cons, List.all_nil, isCell_int, isCell_bool, isCell_ptr, isCell_slice, isCell_func, Bool.and_true, Bool.and_self, and_self, if_true, List.size_toArray, and_true, true_and, Nat.reduceLeDiff, Nat.le_refl, Bool.not_true, Bool.not_false, Bool.true_and, Bool.false_and, Bool.and_false, Int.reduceBNe, Int.reduceBEq, Int.reduceLT, Int.reduceLE, decide_true, decide_false, hs.len, hlen]
  refine brV_d (fun hlt => ?_) (fun hlt => Known_none fun H' he => hR H' ((he1.trans he2).trans he))
  obtain ⟨b1, o1, e, he64, hx2, g1⟩ := get i (by omega)
  refine ⟨fun w3 H' => Ext [] H1 H' ∧ ∃ k : Nat, w3 = iv k ∧ k ≤ 12, fun w _ => (match w with | Value.int _ i => (12 - i).toNat | _ => 0), ⟨he2, 0, rfl, by omega⟩, ?_⟩
  rintro w3 H3 ⟨he3, k, rfl, hk⟩
  simp only [sounderlaw06_SentKnown_s77, sounderlaw06_SentKnown_g78, sounderlaw06_SentKnown_g79, sounderlaw06_SentKnown_g80, sounderlaw06_SentKnown_g82, sounderlaw06_SentKnown_g83, sounderlaw06_SentKnown_g84]
  simp only [bnd_some, brV_t, brV_f, newE_u, pickE_t, pickE_f, nilV_p, faV_p, cells_int, cells_bool, cells_ptr, cells_slice, cells_func, cells_agg, bin_eql, bin_neq, bin_lss, bin_leq, bin_gtr, bin_geq, bin_eqlb, bin_neqb, bin_eqlp, bin_eqlp0, bin_neqp, bin_neqp0, bin_eqls, bin_eqls0, un_not, un_neg, len_s, ex_t, cv_i, callV_f, Option.bind_some, Option.map_some, Nat.zero_add, Nat.add_zero, Nat.reduceAdd, Nat.reduceMul, size_newB, size_setB, blk_newB_self, own_newB_self, setB_setB, List.getElem?_toArray, List.getElem?_cons_zero, List.getElem?_cons_succ, List.length_cons, List.length_nil, List.all_cons, List.all_nil, isCell_int, isCell_bool, isCell_ptr, isCell_slice, isCell_func, Bool.and_true, Bool.and_self, and_self, if_true, List.size_toArray, and_true, true_and, Nat.reduceLeDiff, Nat.le_refl, Bool.not_true, Bool.not_false, Bool.true_and, Bool.false_and, Bool.and_false, Int.reduceBNe, Int.reduceBEq, Int.reduceLT, Int.reduceLE, decide_true, decide_false, hs.len, hlen]
  refine brV_d (fun hlt2 => ?_) (fun hlt2 => ?_)
  · obtain ⟨b2, o2, f, hf64, hx3, g2⟩ := get k (by omega)
    have k1 := ld_ext he3 g1
    have k2 := ld_ext he3 g2
    have hp : buildV (pktC pkt0) (places [(0, 1), (1, 1), (2, 1), (3, 1), (4, 1), (5, 1)]) [(0, iv e), (1, (.int .i64 5)), (2, iv f), (4, (.bool true))] = some (pv ⟨e, 5, f, false, true, false⟩) := rfl
    have hq : buildV (pktC pkt0) (places [(0, 1), (1, 1), (2, 1), (3, 1), (4, 1), (5, 1)]) [(0, (.int .i64 4503599627370496)), (1, iv f), (2, (.int .i64 7)), (3, (.bool true))] = some (pv ⟨4503599627370496, f, 7, true, false, false⟩) := rfl
    have en : Ext [] H3 (newB H3 30 (pktC pkt0)) := (Ext.refl _ _).newB _ _
    have er := Ext.refl [] (newB H3 30 (pktC pkt0))
    simp only [bnd_some, brV_t, brV_f, newE_u, pickE_t, pickE_f, nilV_p, faV_p, cells_int, cells_bool, cells_ptr, cells_slice, cells_func, cells_agg, bin_eql, bin_neq, bin_lss, bin_leq, bin_gtr, bin_geq, bin_eqlb, bin_neqb, bin_eqlp, bin_eqlp0, bin_neqp, bin_neqp0, bin_eqls, bin_eqls0, un_not, un_neg, len_s, ex_t, cv_i, callV_f, Option.bind_some, Option.map_some, Nat.zero_add, Nat.add_zero, Nat.reduceAdd, Nat.reduceMul, size_newB, size_setB, blk_newB_self, own_newB_self, setB_setB, List.getElem?_toArray, List.getElem?_cons_zero, List.getElem?_cons_succ, List.length_cons, List.length_nil, List.all_cons, List.all_nil, isCell_int, isCell_bool, isCell_ptr, isCell_slice, isCell_func, Bool.and_true, Bool.and_self, and_self, if_true, List.size_toArray, and_true, true_and, Nat.reduceLeDiff, Nat.le_refl, Bool.not_true, Bool.not_false, Bool.true_and, Bool.false_and, Bool.and_false, Int.reduceBNe, Int.reduceBEq, Int.reduceLT, Int.reduceLE, decide_true, decide_false, pkt0_C, hx2, hx3, k1, k2, hp, ld_ext en k1, ld_ext en k2, st_pkt er]
    have l4 := st_pkt' (q := ⟨e, 5, f, false, true, false⟩) er
    have he4 := ext_pkt (q := ⟨e, 5, f, false, true, false⟩) er
    have hsz : (setB (newB H3 30 (pktC pkt0)) H3.size (pktC ⟨e, 5, f, false, true, false⟩)).size = H3.size + 1 := by rw [size_setB, size_newB]
    generalize setB (newB H3 30 (pktC pkt0)) H3.size (pktC ⟨e, 5, f, false, true, false⟩) = H4 at l4 he4 hsz ⊢
    have er2 := Ext.refl [] (newB H4 30 (pktC pkt0))
    try simp only [bnd_some, brV_t, brV_f, newE_u, pickE_t, pickE_f, nilV_p, faV_p, cells_int, cells_bool, cells_ptr, cells_slice, cells_func, cells_agg, bin_eql, bin_neq, bin_lss, bin_leq, bin_gtr, bin_geq, bin_eqlb, bin_neqb, bin_eqlp, bin_eqlp0, bin_neqp, bin_neqp0, bin_eqls, bin_eqls0, un_not, un_neg, len_s, ex_t, cv_i, callV_f, Option.bind_some, Option.map_some, Nat.zero_add, Nat.add_zero, Nat.reduceAdd, Nat.reduceMul, size_newB, size_setB, blk_newB_self, own_newB_self, setB_setB, List.getElem?_toArray, List.getElem?_cons_zero, List.getElem?_cons_succ, List.length_cons, List.length_nil, List.all_cons, List.all_nil, isCell_int, isCell_bool, isCell_ptr, isCell_slice, isCell_func, Bool.and_true, Bool.and_self, and_self, if_true, List.size_toArray, and_true, true_and, Nat.reduceLeDiff, Nat.le_refl, Bool.not_true, Bool.not_false, Bool.true_and, Bool.false_and, Bool.and_false, Int.reduceBNe, Int.reduceBEq, Int.reduceLT, Int.reduceLE, decide_true, decide_false, pkt0_C, hx3, ld_ext he4 k2, hq]
    rw [← hsz]
    simp only [st_pkt er2, bnd_some]
    have l5 := st_pkt' (q := ⟨4503599627370496, f, 7, true, false, false⟩) er2
    have he5 := ext_pkt (q := ⟨4503599627370496, f, 7, true, false, false⟩) er2
    refine Known_pair he64 hf64 hx2 hx3 ⟨ld_ext he5 l4, l5, ld_ext (he4.trans he5) k1, ld_ext (he4.trans he5) k2⟩ fun H6 he6 => ?_
    simp only [bnd_some, brV_t, brV_f, newE_u, pickE_t, pickE_f, nilV_p, faV_p, cells_int, cells_bool, cells_ptr, cells_slice, cells_func, cells_agg, bin_eql, bin_neq, bin_lss, bin_leq, bin_gtr, bin_geq, bin_eqlb, bin_neqb, bin_eqlp, bin_eqlp0, bin_neqp, bin_neqp0, bin_eqls, bin_eqls0, un_not, un_neg, len_s, ex_t, cv_i, callV_f, Option.bind_some, Option.map_some, Nat.zero_add, Nat.add_zero, Nat.reduceAdd, Nat.reduceMul, size_newB, size_setB, blk_newB_self, own_newB_self, setB_setB, List.getElem?_toArray, List.getElem?_cons_zero, List.getElem?_cons_succ, List.length_cons, List.length_nil, List.all_cons, List.all_nil, isCell_int, isCell_bool, isCell_ptr, isCell_slice, isCell_func, Bool.and_true, Bool.and_self, and_self, if_true, List.size_toArray, and_true, true_and, Nat.reduceLeDiff, Nat.le_refl, Bool.not_true, Bool.not_false, Bool.true_and, Bool.false_and, Bool.and_false, Int.reduceBNe, Int.reduceBEq, Int.reduceLT, Int.reduceLE, decide_true, decide_false, w1 k hk]
    exact ⟨⟨((he3.trans he4).trans he5).trans he6, k + 1, rfl, by omega⟩, by omega⟩
  · simp only [w1 i hi, bnd_some]
    exact ⟨⟨he3, i + 1, rfl, by omega⟩, by omega⟩
end Go.Hc

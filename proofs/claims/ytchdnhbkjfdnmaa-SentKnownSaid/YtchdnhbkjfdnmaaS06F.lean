/- The log: Between, All, Copy. -/
import Derived.Test.YtchdnhbkjfdnmaaS06E
set_option linter.unusedSimpArgs false
set_option linter.unusedVariables false
namespace Go.Hc
open Go

def within (lo hi : Int) (L : List Pkt) : List Pkt := L.filter fun p => decide (lo ≤ p.num) && decide (p.num ≤ hi)
theorem within_take_succ {sl : List (Pkt × Bool)} {i : Nat} (hi : i < sl.length) : live (sl.take (i + 1)) = live (sl.take i) ++ (if sl[i].2 then [sl[i].1] else []) := by
  rw [List.take_succ_eq_append_getElem hi, live_app]
  cases h : sl[i].2 <;> simp [live, h]
theorem live_len {sl : List (Pkt × Bool)} : (live sl).length ≤ sl.length := by simp [live]; exact List.length_filter_le _ _

theorem each_ev {H : Heap} {b rb cap room fr : Nat} {top ma fl el lo hi : Int} {sl : List (Pkt × Bool)} {f : Value} {R : Value → Heap → Prop} {Inv : List Pkt → Heap → Prop}
    (h0 : Inv [] H) (hI : ∀ l H', Inv l H' → LogR H' b rb cap room top fr sl ma fl el) (hu : Up sl)
    (hE : ∀ l H' H'', Inv l H' → Ext [] H' H'' → Inv l H'')
    (hdo : ∀ l p H' Q, l.length < 512 → Inv l H' → (∀ H'' v, Inv (l ++ [p]) H'' → Q v H'') → callV P f [pv p] H' Q)
    (hR : ∀ H', Inv (within lo hi (live sl)) H' → R (.tuple #[]) H') : EvF P N.sent_Log_each #[ptr b, iv lo, iv hi, f] H R := by
  have h := hI _ _ h0
  have hroom := h.hroom
  have hlen := h.hlen
  refine sent_Log_each_ev _ _ _ _ _ _ ?_
  simp only [sent_Log_each_g23, sent_Log_each_g24, sent_Log_each_g26, sent_Log_each_g28, sent_Log_each_s27, sent_Log_each_g32, sent_Log_each_g33, sent_Log_each_g34, sent_Log_each_s25, sent_Log_each_l35, sent_Log_each]
  refine none_ev h.log (by omega) ?_
  simp only [bnd_some, brV_t, brV_f, newE_u, pickE_t, pickE_f, nilV_p, faV_p, cells_int, cells_bool, cells_ptr, cells_slice, cells_func, cells_agg, bin_eql, bin_neq, bin_lss, bin_leq, bin_gtr, bin_geq, bin_eqlb, bin_neqb, bin_eqlp, bin_eqlp0, bin_neqp, bin_neqp0, bin_eqls, bin_eqls0, un_not, un_neg, len_s, ex_t, cv_i, callV_f, Option.bind_some, Option.map_some, Nat.zero_add, Nat.add_zero, Nat.reduceAdd, Nat.reduceMul, size_newB, size_setB, blk_newB_self, own_newB_self, setB_setB, List.getElem?_toArray, List.getElem?_cons_zero, List.getElem?_cons_succ, List.length_cons, List.length_nil, List.all_cons, List.all_nil, isCell_int, isCell_bool, isCell_ptr, isCell_slice, isCell_func, Bool.and_true, Bool.and_self, and_self, if_true, List.size_toArray, and_true, true_and, Nat.reduceLeDiff, Nat.le_refl, Bool.not_true, Bool.not_false, Bool.true_and, Bool.false_and, Bool.and_false, Int.reduceBNe, Int.reduceBEq, Int.reduceLT, Int.reduceLE, decide_true, decide_false]
  refine find_ev h hu fun k H1 he hk ha hb => ?_
  have hk0 : within lo hi (live (sl.take k)) = [] := by
    unfold within
    rw [List.filter_eq_nil_iff]
    intro p hp
    have hm := mem_live.1 hp
    obtain ⟨j, hj, hjq⟩ := List.getElem_of_mem hm
    rw [List.length_take] at hj
    rw [List.getElem_take] at hjq
    have := ha j (by omega) (by omega)
    rw [hjq] at this
    simp only at this
    simp; omega
  refine ⟨fun v H' => ∃ i : Nat, k ≤ i ∧ i ≤ sl.length ∧ v = iv i ∧ Inv (within lo hi (live (sl.take i))) H',
    fun v _ => (match v with | Value.int _ i => (sl.length - i).toNat | _ => 0), ⟨k, Nat.le_refl _, hk, rfl, by rw [hk0]; exact hE _ _ _ h0 he⟩, ?_⟩
  rintro v H' ⟨i, hki, hil, rfl, hinv⟩
  have h' := hI _ _ hinv
  have l4 : ldE false 1 (.pointer (some ⟨b, 4, none⟩)) H' = some (iv sl.length) := ld_ptr (own_blk h'.log) logC_4
  have w1 : binV .int .add (iv i) (.int .i64 1) = some (iv ((i + 1 : Nat) : Int)) := by rw [bin_addw (by omega)]; rfl
  simp only [bnd_some, brV_t, brV_f, newE_u, pickE_t, pickE_f, nilV_p, faV_p, cells_int, cells_bool, cells_ptr, cells_slice, cells_func, cells_agg, bin_eql, bin_neq, bin_lss, bin_leq, bin_gtr, bin_geq, bin_eqlb, bin_neqb, bin_eqlp, bin_eqlp0, bin_neqp, bin_neqp0, bin_eqls, bin_eqls0, un_not, un_neg, len_s, ex_t, cv_i, callV_f, Option.bind_some, Option.map_some, Nat.zero_add, Nat.add_zero, Nat.reduceAdd, Nat.reduceMul, size_newB, size_setB, blk_newB_self, own_newB_self, setB_setB, List.getElem?_toArray, List.getElem?_cons_zero, List.getElem?_cons_succ, List.length_cons, List.length_nil, List.all_cons, List.all_nil, isCell_int, isCell_bool, isCell_ptr, isCell_slice, isCell_func, Bool.and_true, Bool.and_self, and_self, if_true, List.size_toArray, and_true, true_and, Nat.reduceLeDiff, Nat.le_refl, Bool.not_true, Bool.not_false, Bool.true_and, Bool.false_and, Bool.and_false, Int.reduceBNe, Int.reduceBEq, Int.reduceLT, Int.reduceLE, decide_true, decide_false, l4]
  refine brV_d (fun hlt => ?_) (fun hlt => ?_)
  · have hi' : i < sl.length := by omega
    refine h'.at hi' fun o c hc h0' h6 hg ho => ?_
    have ln : ldE false 1 (.pointer (some ⟨rb, o, none⟩)) H' = some (iv sl[i].1.num) := ld_ptr hc h0'
    simp only [bnd_some, brV_t, brV_f, newE_u, pickE_t, pickE_f, nilV_p, faV_p, cells_int, cells_bool, cells_ptr, cells_slice, cells_func, cells_agg, bin_eql, bin_neq, bin_lss, bin_leq, bin_gtr, bin_geq, bin_eqlb, bin_neqb, bin_eqlp, bin_eqlp0, bin_neqp, bin_neqp0, bin_eqls, bin_eqls0, un_not, un_neg, len_s, ex_t, cv_i, callV_f, Option.bind_some, Option.map_some, Nat.zero_add, Nat.add_zero, Nat.reduceAdd, Nat.reduceMul, size_newB, size_setB, blk_newB_self, own_newB_self, setB_setB, List.getElem?_toArray, List.getElem?_cons_zero, List.getElem?_cons_succ, List.length_cons, List.length_nil, List.all_cons, List.all_nil, isCell_int, isCell_bool, isCell_ptr, isCell_slice, isCell_func, Bool.and_true, Bool.and_self, and_self, if_true, List.size_toArray, and_true, true_and, Nat.reduceLeDiff, Nat.le_refl, Bool.not_true, Bool.not_false, Bool.true_and, Bool.false_and, Bool.and_false, Int.reduceBNe, Int.reduceBEq, Int.reduceLT, Int.reduceLE, decide_true, decide_false, ln]
    refine brV_d (fun hle => ?_) (fun hle => ?_)
    · refine h'.at hi' fun o c hc h0' h6 hg ho => ?_
      have l6 : ldE false 1 (.pointer (some ⟨rb, o + 6, none⟩)) H' = some (.bool sl[i].2) := ld_ptr hc h6
      have lp : ldE true 6 (.pointer (some ⟨rb, o, none⟩)) H' = some (pv sl[i].1) := by simp only [ldE_t, rdA_u, hc, Option.bind_some, hg, Option.map_some]
      simp only [bnd_some, brV_t, brV_f, newE_u, pickE_t, pickE_f, nilV_p, faV_p, cells_int, cells_bool, cells_ptr, cells_slice, cells_func, cells_agg, bin_eql, bin_neq, bin_lss, bin_leq, bin_gtr, bin_geq, bin_eqlb, bin_neqb, bin_eqlp, bin_eqlp0, bin_neqp, bin_neqp0, bin_eqls, bin_eqls0, un_not, un_neg, len_s, ex_t, cv_i, callV_f, Option.bind_some, Option.map_some, Nat.zero_add, Nat.add_zero, Nat.reduceAdd, Nat.reduceMul, size_newB, size_setB, blk_newB_self, own_newB_self, setB_setB, List.getElem?_toArray, List.getElem?_cons_zero, List.getElem?_cons_succ, List.length_cons, List.length_nil, List.all_cons, List.all_nil, isCell_int, isCell_bool, isCell_ptr, isCell_slice, isCell_func, Bool.and_true, Bool.and_self, and_self, if_true, List.size_toArray, and_true, true_and, Nat.reduceLeDiff, Nat.le_refl, Bool.not_true, Bool.not_false, Bool.true_and, Bool.false_and, Bool.and_false, Int.reduceBNe, Int.reduceBEq, Int.reduceLT, Int.reduceLE, decide_true, decide_false, l6]
      have es := within_take_succ hi'
      refine brV_i (fun ht => ?_) (fun ht => ?_)
      · simp only [nilV_p, faV_p, bnd_some, Nat.add_zero, lp]
        have hcnt : (within lo hi (live (sl.take i))).length < 512 := by
          have h1 : (within lo hi (live (sl.take i))).length ≤ (live (sl.take i)).length := List.length_filter_le _ _
          have h2 := live_len (sl := sl.take i)
          rw [List.length_take] at h2; omega
        refine hdo _ _ _ _ hcnt hinv fun H'' v hinv' => ?_
        simp only [w1, bnd_some]
        refine ⟨⟨i + 1, by omega, by omega, rfl, ?_⟩, by omega⟩
        have hge := hb i hi' hki
        have : within lo hi (live (sl.take (i + 1))) = within lo hi (live (sl.take i)) ++ [sl[i].1] := by
          rw [es, ht]; simp [within, hge, hle]
        rw [this]; exact hinv'
      · simp only [w1, bnd_some]
        refine ⟨⟨i + 1, by omega, by omega, rfl, ?_⟩, by omega⟩
        rw [es, ht]; simpa using hinv
    · have hend : within lo hi (live sl) = within lo hi (live (sl.take i)) := by
        conv => lhs; rw [← List.take_append_drop i sl, live_app]
        unfold within
        rw [List.filter_append]
        have : (live (sl.drop i)).filter (fun p => decide (lo ≤ p.num) && decide (p.num ≤ hi)) = [] := by
          rw [List.filter_eq_nil_iff]
          intro p hp
          obtain ⟨j, hj, hjq⟩ := List.getElem_of_mem (mem_live.1 hp)
          rw [List.length_drop] at hj
          rw [List.getElem_drop] at hjq
          rcases Nat.eq_zero_or_pos j with h1 | h1
          · subst h1
            simp only [Nat.add_zero] at hjq
            rw [hjq] at hle; simp only at hle; simp; omega
          · have := hu.lt hi' (show i + j < sl.length by omega) (by omega)
            rw [hjq] at this; simp only at this; simp; omega
        rw [this, List.append_nil]
      exact hR _ (by rw [hend]; exact hinv)
  · have hil' : i = sl.length := by omega
    subst hil'
    rw [List.take_length] at hinv
    exact hR _ hinv

theorem OwnL.cell {A : Type} {E : Enc A} {H : Heap} {v : Value} {S : List Nat} {l : List A} (h : OwnL E H v S l) : v.cells = #[v] ∧ isCell v = true := by cases h <;> exact ⟨rfl, rfl⟩
theorem row_put_ev {H : Heap} {xb : Nat} {v : Value} {S : List Nat} {l : List Pkt} {p : Pkt} {R : Value → Heap → Prop} (hx : own H xb = some #[v]) (hv : OwnL pktE H v S l) (hxs : xb ∉ S) (hl : l.length < 512)
    (hR : ∀ H' v' S', Ext (xb :: S) H H' → own H' xb = some #[v'] → OwnL pktE H' v' S' (l ++ [p]) → (∀ b ∈ S', b ∈ S ∨ H.size ≤ b) → R (.tuple #[]) H') : EvF P N.sent_row_put #[ptr xb, pv p] H R := by
  refine sent_row_put_ev _ _ _ _ ?_
  simp only [sent_row_put_g4, sent_row_put_g5, sent_row_put]
  have e0 : Ext [] H (newB H 30 (pktC p)) := (Ext.refl _ _).newB _ _
  have hx0 : own (newB H 30 (pktC p)) xb = some #[v] := e0.own hx (by simp)
  have lx : ldE true 6 (ptr H.size) (newB H 30 (pktC p)) = some (pv p) := ld_pkt (Ext.refl _ _)
  have l0 : ldE false 1 (ptr xb) (newB H 30 (pktC p)) = some v := ld_ptr (own_blk hx0) rfl
  have hxl := own_lt hx
  simp only [bnd_some, brV_t, brV_f, newE_u, pickE_t, pickE_f, nilV_p, faV_p, cells_int, cells_bool, cells_ptr, cells_slice, cells_func, cells_agg, bin_eql, bin_neq, bin_lss, bin_leq, bin_gtr, bin_geq, bin_eqlb, bin_neqb, bin_eqlp, bin_eqlp0, bin_neqp, bin_neqp0, bin_eqls, bin_eqls0, un_not, un_neg, len_s, ex_t, cv_i, callV_f, Option.bind_some, Option.map_some, Nat.zero_add, Nat.add_zero, Nat.reduceAdd, Nat.reduceMul, size_newB, size_setB, blk_newB_self, own_newB_self, setB_setB, List.getElem?_toArray, List.getElem?_cons_zero, List.getElem?_cons_succ, List.length_cons, List.length_nil, List.all_cons, List.all_nil, isCell_int, isCell_bool, isCell_ptr, isCell_slice, isCell_func, Bool.and_true, Bool.and_self, and_self, if_true, List.size_toArray, and_true, true_and, Nat.reduceLeDiff, Nat.le_refl, Bool.not_true, Bool.not_false, Bool.true_and, Bool.false_and, Bool.and_false, Int.reduceBNe, Int.reduceBEq, Int.reduceLT, Int.reduceLE, decide_true, decide_false, lx, l0]
  refine bslE_1 (E := pktE) (a := p) rfl (fun H1 hs1 he1 ho1 => ?_) (by decide)
  have hx1 : own H1 xb = some #[v] := he1.own hx0 (by simp)
  have l1 : ldE false 1 (ptr xb) H1 = some v := ld_ptr (own_blk hx1) rfl
  have eH1 : Ext [] H H1 := e0.trans he1
  have hv1 : OwnL pktE H1 v S l := hv.ext eH1 (by simp)
  refine ⟨by rw [l1, bnd_some], ?_⟩
  refine appE_l (E := pktE) hv1 ho1.show (by simp only [List.length_cons, List.length_nil]; omega) (by decide) (by simp; omega) fun v' S' H2 he2 hs2 hv2 => ?_
  have hx2 : own H2 xb = some #[v] := he2.own hx1 hxs
  have hcell : v'.cells = #[v'] ∧ isCell v' = true := hv2.cell
  have st : stE 1 (ptr xb) v' H2 = some (setB H2 xb #[v']) := by
    rw [st_ptr hx2 (by simp) hcell.1 hcell.2]; rfl
  simp only [bnd_some, brV_t, brV_f, newE_u, pickE_t, pickE_f, nilV_p, faV_p, cells_int, cells_bool, cells_ptr, cells_slice, cells_func, cells_agg, bin_eql, bin_neq, bin_lss, bin_leq, bin_gtr, bin_geq, bin_eqlb, bin_neqb, bin_eqlp, bin_eqlp0, bin_neqp, bin_neqp0, bin_eqls, bin_eqls0, un_not, un_neg, len_s, ex_t, cv_i, callV_f, Option.bind_some, Option.map_some, Nat.zero_add, Nat.add_zero, Nat.reduceAdd, Nat.reduceMul, size_newB, size_setB, blk_newB_self, own_newB_self, setB_setB, List.getElem?_toArray, List.getElem?_cons_zero, List.getElem?_cons_succ, List.length_cons, List.length_nil, List.all_cons, List.all_nil, isCell_int, isCell_bool, isCell_ptr, isCell_slice, isCell_func, Bool.and_true, Bool.and_self, and_self, if_true, List.size_toArray, and_true, true_and, Nat.reduceLeDiff, Nat.le_refl, Bool.not_true, Bool.not_false, Bool.true_and, Bool.false_and, Bool.and_false, Int.reduceBNe, Int.reduceBEq, Int.reduceLT, Int.reduceLE, decide_true, decide_false, st]
  have hsz := eH1.size
  have hnx : xb ∉ S' := fun hm => (hs2 _ hm).elim hxs (fun h => by omega)
  refine hR _ v' S' (((eH1.mono (by simp)).trans (he2.mono (by simp; exact fun b hb => Or.inl (Or.inr hb)))).setB _ _ (Or.inl (by simp))) (own_setB_same hx2) (hv2.ext ((Ext.refl [xb] _).setB _ _ (Or.inl (by simp))) ?_) fun b hb => ?_
  · intro b hb hb'; simp only [List.mem_cons, List.not_mem_nil, or_false] at hb'; subst hb'; exact hnx hb
  · rcases hs2 b hb with h | h
    · exact Or.inl h
    · exact Or.inr (by omega)

theorem Between_ev {H : Heap} {b rb room : Nat} {top lo hi : Int} {L : List Pkt} {R : Value → Heap → Prop} (h : LogOf H b rb room top L)
    (hR : ∀ H' v S, Ext [] H H' → OwnL pktE H' v S (within lo hi L) → (∀ b ∈ S, H.size ≤ b) → R v H') : EvF P N.sent_Log_Between #[ptr b, iv lo, iv hi] H R := by
  obtain ⟨cap, fr, sl, h⟩ := h
  refine sent_Log_Between_ev _ _ _ _ _ ?_
  simp only [sent_Log_Between_g9, sent_Log_Between_g10, sent_Log_Between_g11, sent_Log_Between_g12, sent_Log_Between]
  have e0 : Ext [] H (newB H 70 #[.slice none 0 0]) := (Ext.refl _ _).newB _ _
  simp only [bnd_some, brV_t, brV_f, newE_u, pickE_t, pickE_f, nilV_p, faV_p, cells_int, cells_bool, cells_ptr, cells_slice, cells_func, cells_agg, bin_eql, bin_neq, bin_lss, bin_leq, bin_gtr, bin_geq, bin_eqlb, bin_neqb, bin_eqlp, bin_eqlp0, bin_neqp, bin_neqp0, bin_eqls, bin_eqls0, un_not, un_neg, len_s, ex_t, cv_i, callV_f, Option.bind_some, Option.map_some, Nat.zero_add, Nat.add_zero, Nat.reduceAdd, Nat.reduceMul, size_newB, size_setB, blk_newB_self, own_newB_self, setB_setB, List.getElem?_toArray, List.getElem?_cons_zero, List.getElem?_cons_succ, List.length_cons, List.length_nil, List.all_cons, List.all_nil, isCell_int, isCell_bool, isCell_ptr, isCell_slice, isCell_func, Bool.and_true, Bool.and_self, and_self, if_true, List.size_toArray, and_true, true_and, Nat.reduceLeDiff, Nat.le_refl, Bool.not_true, Bool.not_false, Bool.true_and, Bool.false_and, Bool.and_false, Int.reduceBNe, Int.reduceBEq, Int.reduceLT, Int.reduceLE, decide_true, decide_false]
  refine each_ev (Inv := fun l H' => Ext [] H H' ∧ ∃ v S, own H' H.size = some #[v] ∧ OwnL pktE H' v S l ∧ H.size ∉ S ∧ ∀ b ∈ S, H.size ≤ b)
    ⟨e0, _, [], own_newB_self, .nil, by simp, by simp⟩ (fun l H' hi => h.rep.ext hi.1 (by simp) (by simp)) h.up ?_ ?_ ?_
  · rintro l H' H'' ⟨a, v, S, hv, ho, hn, hs⟩ he
    exact ⟨a.trans he, v, S, he.own hv (by simp), ho.ext he (by simp), hn, hs⟩
  · rintro l p H' Q hl ⟨a, v, S, hv, ho, hn, hs⟩ hQ
    simp only [bnd_some, brV_t, brV_f, newE_u, pickE_t, pickE_f, nilV_p, faV_p, cells_int, cells_bool, cells_ptr, cells_slice, cells_func, cells_agg, bin_eql, bin_neq, bin_lss, bin_leq, bin_gtr, bin_geq, bin_eqlb, bin_neqb, bin_eqlp, bin_eqlp0, bin_neqp, bin_neqp0, bin_eqls, bin_eqls0, un_not, un_neg, len_s, ex_t, cv_i, callV_f, Option.bind_some, Option.map_some, Nat.zero_add, Nat.add_zero, Nat.reduceAdd, Nat.reduceMul, size_newB, size_setB, blk_newB_self, own_newB_self, setB_setB, List.getElem?_toArray, List.getElem?_cons_zero, List.getElem?_cons_succ, List.length_cons, List.length_nil, List.all_cons, List.all_nil, isCell_int, isCell_bool, isCell_ptr, isCell_slice, isCell_func, Bool.and_true, Bool.and_self, and_self, if_true, List.size_toArray, and_true, true_and, Nat.reduceLeDiff, Nat.le_refl, Bool.not_true, Bool.not_false, Bool.true_and, Bool.false_and, Bool.and_false, Int.reduceBNe, Int.reduceBEq, Int.reduceLT, Int.reduceLE, decide_true, decide_false, Array.toList_empty, List.nil_append, List.append_nil, List.cons_append]
    refine row_put_ev hv ho hn hl fun H'' v' S' he hv' ho' hs' => hQ _ _ ⟨a.thru he ?_, v', S', hv', ho', ?_, ?_⟩
    · intro b hb
      rcases List.mem_cons.1 hb with rfl | hb
      · exact Or.inr (Nat.le_refl _)
      · exact Or.inr (hs b hb)
    · have hsz := a.size
      have hxl := own_lt hv
      intro hm; rcases hs' _ hm with h1 | h1
      · exact hn h1
      · omega
    · have hsz := a.size
      intro b hb; rcases hs' b hb with h1 | h1
      · exact hs b h1
      · omega
  · rintro H' ⟨a, v, S, hv, ho, hn, hs⟩
    have l0 : ldE false 1 (ptr H.size) H' = some v := ld_ptr (own_blk hv) rfl
    simp only [bnd_some, brV_t, brV_f, newE_u, pickE_t, pickE_f, nilV_p, faV_p, cells_int, cells_bool, cells_ptr, cells_slice, cells_func, cells_agg, bin_eql, bin_neq, bin_lss, bin_leq, bin_gtr, bin_geq, bin_eqlb, bin_neqb, bin_eqlp, bin_eqlp0, bin_neqp, bin_neqp0, bin_eqls, bin_eqls0, un_not, un_neg, len_s, ex_t, cv_i, callV_f, Option.bind_some, Option.map_some, Nat.zero_add, Nat.add_zero, Nat.reduceAdd, Nat.reduceMul, size_newB, size_setB, blk_newB_self, own_newB_self, setB_setB, List.getElem?_toArray, List.getElem?_cons_zero, List.getElem?_cons_succ, List.length_cons, List.length_nil, List.all_cons, List.all_nil, isCell_int, isCell_bool, isCell_ptr, isCell_slice, isCell_func, Bool.and_true, Bool.and_self, and_self, if_true, List.size_toArray, and_true, true_and, Nat.reduceLeDiff, Nat.le_refl, Bool.not_true, Bool.not_false, Bool.true_and, Bool.false_and, Bool.and_false, Int.reduceBNe, Int.reduceBEq, Int.reduceLT, Int.reduceLE, decide_true, decide_false, l0]
    rw [h.liv] at ho
    exact hR H' v S a ho hs
theorem All_ev {H : Heap} {b rb room : Nat} {top : Int} {L : List Pkt} {R : Value → Heap → Prop} (h : LogOf H b rb room top L)
    (hR : ∀ H' v S, Ext [] H H' → OwnL pktE H' v S L → (∀ b ∈ S, H.size ≤ b) → R v H') : EvF P N.sent_Log_All #[ptr b] H R := by
  refine sent_Log_All_ev _ _ _ ?_
  simp only [sent_Log_All_g5, sent_Log_All_g6, sent_Log_All]
  refine Between_ev h fun H' v S he ho hs => ?_
  have : within 0 9007199254740991 L = L := by
    obtain ⟨cap, fr, sl, h⟩ := h
    unfold within
    rw [List.filter_eq_self]; intro p hp
    have := (h.mayL p hp).1
    unfold May at this; simp; omega
  rw [this] at ho
  exact hR H' v S he ho hs

theorem Copy_ev {H : Heap} {b rb room : Nat} {top : Int} {L : List Pkt} {R : Value → Heap → Prop} (h : LogOf H b rb room top L)
    (hR : ∀ H' b' rb', Ext [] H H' → H.size ≤ b' → H.size ≤ rb' → LogOf H' b' rb' room top L → R (ptr b') H') : EvF P N.sent_Log_Copy #[ptr b] H R := by
  have hlt := h.lt
  obtain ⟨cap, fr, sl, h⟩ := h
  have hroom := h.rep.hroom
  refine sent_Log_Copy_ev _ _ _ ?_
  simp only [sent_Log_Copy_g15, sent_Log_Copy_g16, sent_Log_Copy_g17, sent_Log_Copy_g18, sent_Log_Copy_g19, sent_Log_Copy_g20, sent_Log_Copy]
  refine none_ev h.rep.log (by omega) ?_
  have l8 : ldE true 8 (ptr b) H = some (.agg (logC room top rb (2 * room) cap fr sl.length L.length (flight L) (elic L))) := by
    simp only [ldE_t, rdA_u, own_blk h.rep.log, Option.bind_some]; rfl
  have s8 : ∀ c : Array Value, c.size = 8 → stE 8 (ptr H.size) (.agg (logC room top rb (2 * room) cap fr sl.length L.length (flight L) (elic L))) (newB H 62 c) =
      some (newB H 62 (logC room top rb (2 * room) cap fr sl.length L.length (flight L) (elic L))) := fun c hc => by
    simp only [stE_p, cells_agg, logC_s, if_true]
    rw [wrA_u own_newB_self (by rw [hc]; exact Nat.le_refl _) (by simp [logC, isCell]), setB_newB_self, splice_all (by rw [hc]; rfl)]
  simp only [bnd_some, brV_t, brV_f, newE_u, pickE_t, pickE_f, nilV_p, faV_p, cells_int, cells_bool, cells_ptr, cells_slice, cells_func, cells_agg, bin_eql, bin_neq, bin_lss, bin_leq, bin_gtr, bin_geq, bin_eqlb, bin_neqb, bin_eqlp, bin_eqlp0, bin_neqp, bin_neqp0, bin_eqls, bin_eqls0, un_not, un_neg, len_s, ex_t, cv_i, callV_f, Option.bind_some, Option.map_some, Nat.zero_add, Nat.add_zero, Nat.reduceAdd, Nat.reduceMul, size_newB, size_setB, blk_newB_self, own_newB_self, setB_setB, List.getElem?_toArray, List.getElem?_cons_zero, List.getElem?_cons_succ, List.length_cons, List.length_nil, List.all_cons, List.all_nil, isCell_int, isCell_bool, isCell_ptr, isCell_slice, isCell_func, Bool.and_true, Bool.and_self, and_self, if_true, List.size_toArray, and_true, true_and, Nat.reduceLeDiff, Nat.le_refl, Bool.not_true, Bool.not_false, Bool.true_and, Bool.false_and, Bool.and_false, Int.reduceBNe, Int.reduceBEq, Int.reduceLT, Int.reduceLE, decide_true, decide_false, l8]
  rw [s8 _ rfl, bnd_some]
  generalize hH1 : newB H 62 (logC room top rb (2 * room) cap fr sl.length L.length (flight L) (elic L)) = H1
  have e1 : Ext [] H H1 := by rw [← hH1]; exact (Ext.refl _ _).newB _ _
  have o1 : own H1 H.size = some (logC room top rb (2 * room) cap fr sl.length L.length (flight L) (elic L)) := by rw [← hH1]; exact own_newB_self
  have h1 := h.ext e1 (by simp) (by simp)
  have hs1 : H1.size = H.size + 1 := by rw [← hH1, size_newB]
  have l2 : ldE false 1 (.pointer (some ⟨b, 2, none⟩)) H1 = some (.slice (some ⟨rb, 0, none⟩) (2 * room) cap) := ld_ptr (own_blk h1.rep.log) logC_2
  simp only [bnd_some, brV_t, brV_f, newE_u, pickE_t, pickE_f, nilV_p, faV_p, cells_int, cells_bool, cells_ptr, cells_slice, cells_func, cells_agg, bin_eql, bin_neq, bin_lss, bin_leq, bin_gtr, bin_geq, bin_eqlb, bin_neqb, bin_eqlp, bin_eqlp0, bin_neqp, bin_neqp0, bin_eqls, bin_eqls0, un_not, un_neg, len_s, ex_t, cv_i, callV_f, Option.bind_some, Option.map_some, Nat.zero_add, Nat.add_zero, Nat.reduceAdd, Nat.reduceMul, size_newB, size_setB, blk_newB_self, own_newB_self, setB_setB, List.getElem?_toArray, List.getElem?_cons_zero, List.getElem?_cons_succ, List.length_cons, List.length_nil, List.all_cons, List.all_nil, isCell_int, isCell_bool, isCell_ptr, isCell_slice, isCell_func, Bool.and_true, Bool.and_self, and_self, if_true, List.size_toArray, and_true, true_and, Nat.reduceLeDiff, Nat.le_refl, Bool.not_true, Bool.not_false, Bool.true_and, Bool.false_and, Bool.and_false, Int.reduceBNe, Int.reduceBEq, Int.reduceLT, Int.reduceLE, decide_true, decide_false, l2]
  refine slices_Clone_slot_ev _ _ _ ?_
  simp only [slices_Clone_slot_g11, slices_Clone_slot_g12, slices_Clone_slot_g13, slices_Clone_slot_g14, slices_Clone_slot]
  simp only [bnd_some, brV_t, brV_f, newE_u, pickE_t, pickE_f, nilV_p, faV_p, cells_int, cells_bool, cells_ptr, cells_slice, cells_func, cells_agg, bin_eql, bin_neq, bin_lss, bin_leq, bin_gtr, bin_geq, bin_eqlb, bin_neqb, bin_eqlp, bin_eqlp0, bin_neqp, bin_neqp0, bin_eqls, bin_eqls0, un_not, un_neg, len_s, ex_t, cv_i, callV_f, Option.bind_some, Option.map_some, Nat.zero_add, Nat.add_zero, Nat.reduceAdd, Nat.reduceMul, size_newB, size_setB, blk_newB_self, own_newB_self, setB_setB, List.getElem?_toArray, List.getElem?_cons_zero, List.getElem?_cons_succ, List.length_cons, List.length_nil, List.all_cons, List.all_nil, isCell_int, isCell_bool, isCell_ptr, isCell_slice, isCell_func, Bool.and_true, Bool.and_self, and_self, if_true, List.size_toArray, and_true, true_and, Nat.reduceLeDiff, Nat.le_refl, Bool.not_true, Bool.not_false, Bool.true_and, Bool.false_and, Bool.and_false, Int.reduceBNe, Int.reduceBEq, Int.reduceLT, Int.reduceLE, decide_true, decide_false]
  refine ⟨by decide, ?_⟩
  obtain ⟨c, f, hc, hr, hcap, hf⟩ := h1.rep.ring
  have hsz := hr.size
  have hrl : 2 * room * 7 ≤ cap * 7 := Nat.mul_le_mul_right 7 hcap
  simp only [fillA, bnd_some]
  generalize hH2 : newB H1 65 (repZ #[(.int .i64 0), (.int .i64 0), (.int .i64 0), (.bool false), (.bool false), (.bool false), (.bool false)] 0) = H2
  have e2 : Ext [] H1 H2 := by rw [← hH2]; exact (Ext.refl _ _).newB _ _
  have hs2 : H2.size = H1.size + 1 := by rw [← hH2, size_newB]
  have hc2 := e2.own hc (by simp)
  have o2 := e2.own o1 (by simp)
  have hread : rdS H2 7 (2 * room) (some ⟨rb, 0, none⟩) = some (c.extract 0 (2 * room * 7)) := by
    simp only [rdS, rdA, own_blk hc2, getC, Nat.zero_add]; rw [if_pos (by omega)]
  have hread0 : ∃ x, rdS H2 7 0 (some ⟨H1.size, 0, none⟩) = some x ∧ x = #[] := by
    have o : own H2 H1.size = some (repZ #[(.int .i64 0), (.int .i64 0), (.int .i64 0), (.bool false), (.bool false), (.bool false), (.bool false)] 0) := by rw [← hH2]; exact own_newB_self
    refine ⟨_, by simp only [rdS, rdA, own_blk o, getC, Nat.zero_add, Nat.zero_mul]; rw [if_pos (Nat.zero_le _)], by simp⟩
  obtain ⟨x0, hread0, rfl⟩ := hread0
  unfold appE
  dsimp only
  rw [hread, bnd_some, if_neg (by omega), hread0, bnd_some]
  refine ⟨by omega, fun cap' hcap' hcap2' => ?_⟩
  have hrows : Rows 7 (#[] ++ c.extract 0 (2 * room * 7) ++ repZ (slotC (pkt0, false)) (cap' - (0 + 2 * room))) cap' (fun i => if i < 2 * room then f i else slotC (pkt0, false)) := by
    have := (hr.take hcap).app (Rows.zero (sz := 7) (cap' - (0 + 2 * room)) (z := slotC (pkt0, false)) rfl)
    rw [show 2 * room + (cap' - (0 + 2 * room)) = cap' from by omega] at this
    rw [Array.empty_append]; exact this
  generalize hcs : (#[] ++ c.extract 0 (2 * room * 7) ++ repZ (slotC (pkt0, false)) (cap' - (0 + 2 * room))) = cs at hrows
  have hcs' : (#[] ++ c.extract 0 (2 * room * 7) ++ repZ #[(.int .i64 0), (.int .i64 0), (.int .i64 0), (.bool false), (.bool false), (.bool false), (.bool false)] (cap' - (0 + 2 * room))) = cs := hcs
  rw [hcs']
  have o3 : own (newB H2 65 cs) H.size = some (logC room top rb (2 * room) cap fr sl.length L.length (flight L) (elic L)) := by rw [own_newB_ne (by omega)]; exact o2
  have s2 : stE 1 (.pointer (some ⟨H.size, 2, none⟩)) (.slice (some ⟨H2.size, 0, none⟩) (2 * room) cap') (newB H2 65 cs) = some (setB (newB H2 65 cs) H.size (logC room top H2.size (2 * room) cap' fr sl.length L.length (flight L) (elic L))) := by
    rw [st_ptr o3 (by rw [logC_s]; omega) rfl rfl, logC_w2]
  simp only [bnd_some, brV_t, brV_f, newE_u, pickE_t, pickE_f, nilV_p, faV_p, cells_int, cells_bool, cells_ptr, cells_slice, cells_func, cells_agg, bin_eql, bin_neq, bin_lss, bin_leq, bin_gtr, bin_geq, bin_eqlb, bin_neqb, bin_eqlp, bin_eqlp0, bin_neqp, bin_neqp0, bin_eqls, bin_eqls0, un_not, un_neg, len_s, ex_t, cv_i, callV_f, Option.bind_some, Option.map_some, Nat.zero_add, Nat.add_zero, Nat.reduceAdd, Nat.reduceMul, size_newB, size_setB, blk_newB_self, own_newB_self, setB_setB, List.getElem?_toArray, List.getElem?_cons_zero, List.getElem?_cons_succ, List.length_cons, List.length_nil, List.all_cons, List.all_nil, isCell_int, isCell_bool, isCell_ptr, isCell_slice, isCell_func, Bool.and_true, Bool.and_self, and_self, if_true, List.size_toArray, and_true, true_and, Nat.reduceLeDiff, Nat.le_refl, Bool.not_true, Bool.not_false, Bool.true_and, Bool.false_and, Bool.and_false, Int.reduceBNe, Int.reduceBEq, Int.reduceLT, Int.reduceLE, decide_true, decide_false, s2]
  refine hR _ H.size H2.size (((e1.trans e2).newB _ _).setB _ _ (Or.inr (Nat.le_refl _))) (Nat.le_refl _) (by omega) ⟨cap', fr, sl, ⟨own_setB_same o3, by omega, hroom, h.rep.hfr, h.rep.hlen, cs, _, ?_, hrows, by omega, fun i hi => ?_⟩, h.up, h.liv, h.may, h.htop, h.few, h.head⟩
  · rw [own_setB_ne (by omega), own_newB_self]
  · rw [if_pos (Nat.mod_lt _ (by omega))]; exact hf i hi
end Go.Hc

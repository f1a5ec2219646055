/- The log: Put; Between, All; Copy. -/
import Derived.Test.YtchdnhbkjfdnmaaS06D
set_option linter.unusedSimpArgs false
set_option linter.unusedVariables false
namespace Go.Hc
open Go

/-- What Put answers. -/
def putE (room : Nat) (top : Int) (L : List Pkt) (p : Pkt) : Int := if May p then (if p.num ≤ top then 60 else if L.length = room then 5 else 0) else 2

theorem LogR.push {H : Heap} {b rb cap room fr : Nat} {top ma fl el : Int} {sl : List (Pkt × Bool)} (h : LogR H b rb cap room top fr sl ma fl el) (hl : sl.length < 2 * room) {p : Pkt} :
    ∃ H1, stE 7 (.pointer (some ⟨rb, (fr + sl.length) % (2 * room) * 7, none⟩)) (.agg (slotC (p, true))) H = some H1 ∧ Ext [rb] H H1 ∧ own H1 b = own H b ∧
      (∀ b', b' ≠ rb → own H1 b' = own H b') ∧
      ∃ c f, own H1 rb = some c ∧ Rows 7 c cap f ∧ 2 * room ≤ cap ∧ ∀ i (hi : i < (sl ++ [(p, true)]).length), f ((fr + i) % (2 * room)) = slotC (sl ++ [(p, true)])[i] := by
  obtain ⟨c, f, hc, hr, hcap, hf⟩ := h.ring
  have h1 := h.hroom
  have h4 := h.hfr
  have hlt : (fr + sl.length) % (2 * room) < cap := Nat.lt_of_lt_of_le (Nat.mod_lt _ (by omega)) hcap
  have hrl := row_lt (sz := 7) hlt
  have hsz := hr.size
  refine ⟨setB H rb (splice c ((fr + sl.length) % (2 * room) * 7) (slotC (p, true)).toList), ?_, (Ext.refl _ _).setB _ _ (Or.inl (by simp)), own_setB_ne h.ne, fun b' hb' => own_setB_ne hb', _, _, own_setB_same hc, hr.set hlt slotC_l, hcap, fun j hj => ?_⟩
  · simp only [stE_p, cells_agg, slotC_s, if_true]
    rw [wrA_u hc (by rw [slotC_l]; omega) slotC_a]
  · simp only [List.length_append, List.length_cons, List.length_nil] at hj
    by_cases hij : j = sl.length
    · subst hij; simp
    · have : (fr + j) % (2 * room) ≠ (fr + sl.length) % (2 * room) := by
        intro e
        rcases Nat.lt_or_ge (fr + sl.length) (2 * room) with h5 | h5 <;> rcases Nat.lt_or_ge (fr + j) (2 * room) with h6 | h6
        · rw [Nat.mod_eq_of_lt h5, Nat.mod_eq_of_lt h6] at e; omega
        · rw [Nat.mod_eq_of_lt h5, Nat.mod_eq_sub_mod h6, Nat.mod_eq_of_lt (by omega)] at e; omega
        · rw [Nat.mod_eq_of_lt h6, Nat.mod_eq_sub_mod h5, Nat.mod_eq_of_lt (by omega)] at e; omega
        · rw [Nat.mod_eq_sub_mod h5, Nat.mod_eq_sub_mod h6, Nat.mod_eq_of_lt (a := fr + j - 2 * room) (by omega), Nat.mod_eq_of_lt (by omega)] at e; omega
      have hj' : j < sl.length := by omega
      simp only [this, if_false, List.getElem_append_left hj']; exact hf j hj'

theorem up_push {sl : List (Pkt × Bool)} {top : Int} {p : Pkt} (h : Up sl) (hm : ∀ s ∈ sl, May s.1 ∧ s.1.num ≤ top) (hp : top < p.num) : Up (sl ++ [(p, true)]) := by
  refine List.pairwise_append.2 ⟨h, by simp, fun a ha b hb => ?_⟩
  have := (hm a ha).2
  simp only [List.mem_cons, List.not_mem_nil, or_false] at hb; subst hb
  simp only; omega
theorem filter_head {sl : List (Pkt × Bool)} : ∀ s ∈ (sl.filter (·.2)).head?, s.2 = true := by
  intro s hs
  have := List.mem_of_head? hs
  simpa using (List.mem_filter.1 this).2
theorem live_filter {sl : List (Pkt × Bool)} : live (sl.filter (·.2)) = live sl := by simp [live]

/-- The end of Put: the slot is laid, and the totals are told. -/
theorem Put_tail {H : Heap} {b rb cap room fr x : Nat} {top : Int} {sl : List (Pkt × Bool)} {L : List Pkt} {p : Pkt} {R : Value → Heap → Prop}
    (h : LogS H b rb cap room top fr sl L) (hl : sl.length < 2 * room) (hp : May p) (ht : top < p.num) (hf : L.length < room) (hx : own H x = some (pktC p)) (hxb : x ≠ b) (hxr : x ≠ rb)
    (hR : ∀ H', Ext [b, rb] H H' → LogOf H' b rb room p.num (L ++ [p]) → R (iv 0) H') : sent_Log_Put_s49 (ptr b) (ptr x) R H := by
  simp only [sent_Log_Put_s49, sent_Log_Put_g40, sent_Log_Put_g41, sent_Log_Put_g42, sent_Log_Put_g43, sent_Log_Put_g44, sent_Log_Put_g45, sent_Log_Put_g46, sent_Log_Put_g47, sent_Log_Put_g48, sent_Log_Put_g50, sent_Log_Put_g51, sent_Log_Put_g52, sent_Log_Put_g53, sent_Log_Put_g54, sent_Log_Put_g56, sent_Log_Put_g57, sent_Log_Put]
  have hroom := h.rep.hroom
  have hfr := h.rep.hfr
  have hlog := h.rep.log
  have l4 : ldE false 1 (.pointer (some ⟨b, 4, none⟩)) H = some (iv sl.length) := ld_ptr (own_blk hlog) logC_4
  have lx : ldE true 6 (ptr x) H = some (pv p) := by simp only [ldE_t, rdA_u, own_blk hx, Option.bind_some, pktC_g, Option.map_some]
  have hb : buildV #[(.int .i64 0), (.int .i64 0), (.int .i64 0), (.bool false), (.bool false), (.bool false), (.bool false)] (places [(0, 6), (6, 1)]) [(0, pv p), (1, (.bool true))] = some (.agg (slotC (p, true))) := rfl
  simp only [bnd_some, brV_t, brV_f, newE_u, pickE_t, pickE_f, nilV_p, faV_p, cells_int, cells_bool, cells_ptr, cells_slice, cells_func, cells_agg, bin_eql, bin_neq, bin_lss, bin_leq, bin_gtr, bin_geq, bin_eqlb, bin_neqb, bin_eqlp, bin_eqlp0, bin_neqp, bin_neqp0, bin_eqls, bin_eqls0, un_not, un_neg, len_s, ex_t, cv_i, callV_f, Option.bind_some, Option.map_some, Nat.zero_add, Nat.add_zero, Nat.reduceAdd, Nat.reduceMul, size_newB, size_setB, blk_newB_self, own_newB_self, setB_setB, List.getElem?_toArray, List.getElem?_cons_zero, List.getElem?_cons_succ, List.length_cons, List.length_nil, List.all_cons, List.all_nil, isCell_int, isCell_bool, isCell_ptr, isCell_slice, isCell_func, Bool.and_true, Bool.and_self, and_self, if_true, List.size_toArray, and_true, true_and, Nat.reduceLeDiff, Nat.le_refl, Bool.not_true, Bool.not_false, Bool.true_and, Bool.false_and, Bool.and_false, Int.reduceBNe, Int.reduceBEq, Int.reduceLT, Int.reduceLE, decide_true, decide_false, l4, lx, hb]
  refine at_ev hlog (by omega) (by omega) (by omega) ?_
  have e : (((fr : Int) + sl.length) % ((2 * room : Nat) : Int)).toNat = (fr + sl.length) % (2 * room) := by
    rw [← Int.natCast_add, ← Int.natCast_emod]; rfl
  rw [e]
  obtain ⟨H1, st1, e1, o1, o1', c1, f1, hc1, hr1, hcap1, hf1⟩ := h.rep.push hl (p := p)
  have lx2 : (bnd (ldE true 6 (ptr x) H) fun v' => v' = pv p) := by rw [lx, bnd_some]
  have hx1 : own H1 x = some (pktC p) := by rw [o1' _ hxr]; exact hx
  have hlog1 : own H1 b = some (logC room top rb (2 * room) cap fr sl.length L.length (flight L) (elic L)) := by rw [o1]; exact hlog
  have l41 : ldE false 1 (.pointer (some ⟨b, 4, none⟩)) H1 = some (iv sl.length) := ld_ptr (own_blk hlog1) logC_4
  have w1 : binV .int .add (iv sl.length) (.int .i64 1) = some (iv ((sl.length + 1 : Nat) : Int)) := by rw [bin_addw (by omega)]; rfl
  have s4 : stE 1 (.pointer (some ⟨b, 4, none⟩)) (iv ((sl.length + 1 : Nat) : Int)) H1 = some (setB H1 b (logC room top rb (2 * room) cap fr (sl.length + 1 : Nat) L.length (flight L) (elic L))) := by
    rw [st_ptr hlog1 (by rw [logC_s]; omega) rfl rfl, logC_w4]
  have hlog2 := own_setB_same (c' := logC room top rb (2 * room) cap fr (sl.length + 1 : Nat) L.length (flight L) (elic L)) hlog1
  have hx2 : own (setB H1 b (logC room top rb (2 * room) cap fr (sl.length + 1 : Nat) L.length (flight L) (elic L))) x = some (pktC p) := by rw [own_setB_ne hxb]; exact hx1
  have lx0 : ldE false 1 (ptr x) (setB H1 b (logC room top rb (2 * room) cap fr (sl.length + 1 : Nat) L.length (flight L) (elic L))) = some (iv p.num) := ld_ptr (own_blk hx2) pktC_0
  have s1 : stE 1 (.pointer (some ⟨b, 1, none⟩)) (iv p.num) (setB H1 b (logC room top rb (2 * room) cap fr (sl.length + 1 : Nat) L.length (flight L) (elic L))) = some (setB H1 b (logC room p.num rb (2 * room) cap fr (sl.length + 1 : Nat) L.length (flight L) (elic L))) := by
    rw [st_ptr hlog2 (by rw [logC_s]; omega) rfl rfl, logC_w1, setB_setB]
  have hlog3 := own_setB_same (c' := logC room p.num rb (2 * room) cap fr (sl.length + 1 : Nat) L.length (flight L) (elic L)) hlog1
  have hx3 : own (setB H1 b (logC room p.num rb (2 * room) cap fr (sl.length + 1 : Nat) L.length (flight L) (elic L))) x = some (pktC p) := by rw [own_setB_ne hxb]; exact hx1
  have lx3 : ldE true 6 (ptr x) (setB H1 b (logC room p.num rb (2 * room) cap fr (sl.length + 1 : Nat) L.length (flight L) (elic L))) = some (pv p) := by simp only [ldE_t, rdA_u, own_blk hx3, Option.bind_some, pktC_g, Option.map_some]
  refine ⟨lx2, ?_⟩
  simp only [bnd_some, brV_t, brV_f, newE_u, pickE_t, pickE_f, nilV_p, faV_p, cells_int, cells_bool, cells_ptr, cells_slice, cells_func, cells_agg, bin_eql, bin_neq, bin_lss, bin_leq, bin_gtr, bin_geq, bin_eqlb, bin_neqb, bin_eqlp, bin_eqlp0, bin_neqp, bin_neqp0, bin_eqls, bin_eqls0, un_not, un_neg, len_s, ex_t, cv_i, callV_f, Option.bind_some, Option.map_some, Nat.zero_add, Nat.add_zero, Nat.reduceAdd, Nat.reduceMul, size_newB, size_setB, blk_newB_self, own_newB_self, setB_setB, List.getElem?_toArray, List.getElem?_cons_zero, List.getElem?_cons_succ, List.length_cons, List.length_nil, List.all_cons, List.all_nil, isCell_int, isCell_bool, isCell_ptr, isCell_slice, isCell_func, Bool.and_true, Bool.and_self, and_self, if_true, List.size_toArray, and_true, true_and, Nat.reduceLeDiff, Nat.le_refl, Bool.not_true, Bool.not_false, Bool.true_and, Bool.false_and, Bool.and_false, Int.reduceBNe, Int.reduceBEq, Int.reduceLT, Int.reduceLE, decide_true, decide_false, st1, l41, w1, s4, lx0, s1, lx3]
  have hfl := flight_le (L := L) fun p hp => (h.mayL p hp).1
  have hel := elic_le (L := L)
  refine more_ev hlog3 (by omega) (by omega) (by omega) (by unfold May at hp; omega) fun H2 he2 ho2 hx2' => ?_
  have hrb := own_lt hc1
  refine hR H2 (((e1.mono (by simp)).setB _ _ (Or.inl (by simp))).trans (he2.mono (by simp))) ⟨cap, fr, sl ++ [(p, true)], ⟨?_, h.rep.ne, hroom, hfr, by simp; omega, c1, f1, ?_, hr1, hcap1, hf1⟩, up_push h.up h.may ht, by rw [live_app, h.liv]; rfl, ?_, by unfold May at hp; omega, by simp; omega, ?_⟩
  · rw [ho2, flight_app, elic_app]
    simp only [flight, elic, List.length_append, List.length_cons, List.length_nil]
    congr 2
    · cases p.fl <;> simp
    · cases p.fl <;> cases p.el <;> simp
  · rw [hx2' rb (Ne.symm h.rep.ne) (by rw [size_setB]; exact hrb), own_setB_ne (Ne.symm h.rep.ne)]; exact hc1
  · intro s hs
    rcases List.mem_append.1 hs with h1 | h1
    · have := h.may s h1; exact ⟨this.1, by omega⟩
    · simp only [List.mem_cons, List.not_mem_nil, or_false] at h1; subst h1; exact ⟨hp, Int.le_refl _⟩
  · intro s hs
    cases hsl : sl with
    | nil => rw [hsl] at hs; simp at hs; subst hs; rfl
    | cons s' sl' => rw [hsl] at hs; simp at hs; exact h.head s (by rw [hsl]; simp [hs])

theorem Put_ev {H : Heap} {b rb room : Nat} {top : Int} {L : List Pkt} {p : Pkt} {R : Value → Heap → Prop} (h : LogOf H b rb room top L)
    (hR : ∀ H' rb', Ext [b, rb] H H' → (rb' = rb ∨ H.size ≤ rb') → LogOf H' b rb' room (if putE room top L p = 0 then p.num else top) (if putE room top L p = 0 then L ++ [p] else L) → R (iv (putE room top L p)) H') :
    EvF P N.sent_Log_Put #[ptr b, pv p] H R := by
  have hlt := h.lt
  obtain ⟨cap, fr, sl, h⟩ := h
  have bad : ∀ (n : Int) (H' : Heap), n ≠ 0 → putE room top L p = n → Ext [] H H' → R (iv n) H' := fun n H' hn hp he => by
    have := hR H' rb (he.mono (by simp)) (Or.inl rfl)
    rw [hp, if_neg hn, if_neg hn] at this
    exact this ⟨cap, fr, sl, h.ext he (by simp) (by simp)⟩
  refine sent_Log_Put_ev _ _ _ _ ?_
  simp only [sent_Log_Put_g40, sent_Log_Put_g41, sent_Log_Put_g42, sent_Log_Put_g43, sent_Log_Put_g44, sent_Log_Put_g45, sent_Log_Put_g46, sent_Log_Put_g47, sent_Log_Put_g48, sent_Log_Put_g50, sent_Log_Put_g51, sent_Log_Put_g52, sent_Log_Put_g53, sent_Log_Put_g54, sent_Log_Put_g56, sent_Log_Put_g57, sent_Log_Put]
  have e0 : Ext [] H (newB H 30 (pktC p)) := (Ext.refl _ _).newB _ _
  have h0 := h.ext e0 (by simp) (by simp)
  have hroom := h.rep.hroom
  simp only [bnd_some, brV_t, brV_f, newE_u, pickE_t, pickE_f, nilV_p, faV_p, cells_int, cells_bool, cells_ptr, cells_slice, cells_func, cells_agg, bin_eql, bin_neq, bin_lss, bin_leq, bin_gtr, bin_geq, bin_eqlb, bin_neqb, bin_eqlp, bin_eqlp0, bin_neqp, bin_neqp0, bin_eqls, bin_eqls0, un_not, un_neg, len_s, ex_t, cv_i, callV_f, Option.bind_some, Option.map_some, Nat.zero_add, Nat.add_zero, Nat.reduceAdd, Nat.reduceMul, size_newB, size_setB, blk_newB_self, own_newB_self, setB_setB, List.getElem?_toArray, List.getElem?_cons_zero, List.getElem?_cons_succ, List.length_cons, List.length_nil, List.all_cons, List.all_nil, isCell_int, isCell_bool, isCell_ptr, isCell_slice, isCell_func, Bool.and_true, Bool.and_self, and_self, if_true, List.size_toArray, and_true, true_and, Nat.reduceLeDiff, Nat.le_refl, Bool.not_true, Bool.not_false, Bool.true_and, Bool.false_and, Bool.and_false, Int.reduceBNe, Int.reduceBEq, Int.reduceLT, Int.reduceLE, decide_true, decide_false]
  refine none_ev h0.rep.log (by omega) ?_
  have lx : ldE true 6 (ptr H.size) (newB H 30 (pktC p)) = some (pv p) := ld_pkt (Ext.refl _ _)
  simp only [bnd_some, brV_t, brV_f, newE_u, pickE_t, pickE_f, nilV_p, faV_p, cells_int, cells_bool, cells_ptr, cells_slice, cells_func, cells_agg, bin_eql, bin_neq, bin_lss, bin_leq, bin_gtr, bin_geq, bin_eqlb, bin_neqb, bin_eqlp, bin_eqlp0, bin_neqp, bin_neqp0, bin_eqls, bin_eqls0, un_not, un_neg, len_s, ex_t, cv_i, callV_f, Option.bind_some, Option.map_some, Nat.zero_add, Nat.add_zero, Nat.reduceAdd, Nat.reduceMul, size_newB, size_setB, blk_newB_self, own_newB_self, setB_setB, List.getElem?_toArray, List.getElem?_cons_zero, List.getElem?_cons_succ, List.length_cons, List.length_nil, List.all_cons, List.all_nil, isCell_int, isCell_bool, isCell_ptr, isCell_slice, isCell_func, Bool.and_true, Bool.and_self, and_self, if_true, List.size_toArray, and_true, true_and, Nat.reduceLeDiff, Nat.le_refl, Bool.not_true, Bool.not_false, Bool.true_and, Bool.false_and, Bool.and_false, Int.reduceBNe, Int.reduceBEq, Int.reduceLT, Int.reduceLE, decide_true, decide_false, lx]
  refine may_ev fun H' he => ?_
  have h' := h0.ext he (by simp) (by simp)
  have hx : own H' H.size = some (pktC p) := he.own own_newB_self (by simp)
  have eH : Ext [] H H' := e0.trans he
  have hmay : (Value.bool !decide (May p)) = .bool (decide (¬ May p)) := by by_cases hm : May p <;> simp [hm]
  simp only [bnd_some, brV_t, brV_f, newE_u, pickE_t, pickE_f, nilV_p, faV_p, cells_int, cells_bool, cells_ptr, cells_slice, cells_func, cells_agg, bin_eql, bin_neq, bin_lss, bin_leq, bin_gtr, bin_geq, bin_eqlb, bin_neqb, bin_eqlp, bin_eqlp0, bin_neqp, bin_neqp0, bin_eqls, bin_eqls0, un_not, un_neg, len_s, ex_t, cv_i, callV_f, Option.bind_some, Option.map_some, Nat.zero_add, Nat.add_zero, Nat.reduceAdd, Nat.reduceMul, size_newB, size_setB, blk_newB_self, own_newB_self, setB_setB, List.getElem?_toArray, List.getElem?_cons_zero, List.getElem?_cons_succ, List.length_cons, List.length_nil, List.all_cons, List.all_nil, isCell_int, isCell_bool, isCell_ptr, isCell_slice, isCell_func, Bool.and_true, Bool.and_self, and_self, if_true, List.size_toArray, and_true, true_and, Nat.reduceLeDiff, Nat.le_refl, Bool.not_true, Bool.not_false, Bool.true_and, Bool.false_and, Bool.and_false, Int.reduceBNe, Int.reduceBEq, Int.reduceLT, Int.reduceLE, decide_true, decide_false, hmay]
  refine brV_d (fun hm => ?_) (fun hm => ?_)
  · exact bad 2 H' (by decide) (by simp [putE, hm]) eH
  · have hm' : May p := Decidable.of_not_not hm
    have lx0 : ldE false 1 (ptr H.size) H' = some (iv p.num) := ld_ptr (own_blk hx) pktC_0
    have l1 : ldE false 1 (.pointer (some ⟨b, 1, none⟩)) H' = some (iv top) := ld_ptr (own_blk h'.rep.log) logC_1
    have l5 : ldE false 1 (.pointer (some ⟨b, 5, none⟩)) H' = some (iv L.length) := ld_ptr (own_blk h'.rep.log) logC_5
    have l00 : ldE false 1 (ptr b) H' = some (iv room) := ld_ptr (own_blk h'.rep.log) logC_0
    have l4 : ldE false 1 (.pointer (some ⟨b, 4, none⟩)) H' = some (iv sl.length) := ld_ptr (own_blk h'.rep.log) logC_4
    have l2 : ldE false 1 (.pointer (some ⟨b, 2, none⟩)) H' = some (.slice (some ⟨rb, 0, none⟩) (2 * room) cap) := ld_ptr (own_blk h'.rep.log) logC_2
    simp only [bnd_some, brV_t, brV_f, newE_u, pickE_t, pickE_f, nilV_p, faV_p, cells_int, cells_bool, cells_ptr, cells_slice, cells_func, cells_agg, bin_eql, bin_neq, bin_lss, bin_leq, bin_gtr, bin_geq, bin_eqlb, bin_neqb, bin_eqlp, bin_eqlp0, bin_neqp, bin_neqp0, bin_eqls, bin_eqls0, un_not, un_neg, len_s, ex_t, cv_i, callV_f, Option.bind_some, Option.map_some, Nat.zero_add, Nat.add_zero, Nat.reduceAdd, Nat.reduceMul, size_newB, size_setB, blk_newB_self, own_newB_self, setB_setB, List.getElem?_toArray, List.getElem?_cons_zero, List.getElem?_cons_succ, List.length_cons, List.length_nil, List.all_cons, List.all_nil, isCell_int, isCell_bool, isCell_ptr, isCell_slice, isCell_func, Bool.and_true, Bool.and_self, and_self, if_true, List.size_toArray, and_true, true_and, Nat.reduceLeDiff, Nat.le_refl, Bool.not_true, Bool.not_false, Bool.true_and, Bool.false_and, Bool.and_false, Int.reduceBNe, Int.reduceBEq, Int.reduceLT, Int.reduceLE, decide_true, decide_false, lx0, l1]
    refine brV_d (fun ht => ?_) (fun ht => ?_)
    · exact bad 60 H' (by decide) (by simp [putE, hm', ht]) eH
    · simp only [bnd_some, brV_t, brV_f, newE_u, pickE_t, pickE_f, nilV_p, faV_p, cells_int, cells_bool, cells_ptr, cells_slice, cells_func, cells_agg, bin_eql, bin_neq, bin_lss, bin_leq, bin_gtr, bin_geq, bin_eqlb, bin_neqb, bin_eqlp, bin_eqlp0, bin_neqp, bin_neqp0, bin_eqls, bin_eqls0, un_not, un_neg, len_s, ex_t, cv_i, callV_f, Option.bind_some, Option.map_some, Nat.zero_add, Nat.add_zero, Nat.reduceAdd, Nat.reduceMul, size_newB, size_setB, blk_newB_self, own_newB_self, setB_setB, List.getElem?_toArray, List.getElem?_cons_zero, List.getElem?_cons_succ, List.length_cons, List.length_nil, List.all_cons, List.all_nil, isCell_int, isCell_bool, isCell_ptr, isCell_slice, isCell_func, Bool.and_true, Bool.and_self, and_self, if_true, List.size_toArray, and_true, true_and, Nat.reduceLeDiff, Nat.le_refl, Bool.not_true, Bool.not_false, Bool.true_and, Bool.false_and, Bool.and_false, Int.reduceBNe, Int.reduceBEq, Int.reduceLT, Int.reduceLE, decide_true, decide_false, l5, l00]
      refine brV_i (fun hr => ?_) (fun hr => ?_)
      · have hr' : L.length = room := by have : (L.length : Int) = room := by simpa using hr
                                         omega
        exact bad 5 H' (by decide) (by simp [putE, hm', ht, hr']) eH
      · have hr' : L.length ≠ room := by have : (L.length : Int) ≠ room := by simpa using hr
                                         omega
        have hfew := h.few
        have hput : putE room top L p = 0 := by simp [putE, hm', ht, hr']
        rw [hput] at hR
        simp only [if_true] at hR
        simp only [bnd_some, brV_t, brV_f, newE_u, pickE_t, pickE_f, nilV_p, faV_p, cells_int, cells_bool, cells_ptr, cells_slice, cells_func, cells_agg, bin_eql, bin_neq, bin_lss, bin_leq, bin_gtr, bin_geq, bin_eqlb, bin_neqb, bin_eqlp, bin_eqlp0, bin_neqp, bin_neqp0, bin_eqls, bin_eqls0, un_not, un_neg, len_s, ex_t, cv_i, callV_f, Option.bind_some, Option.map_some, Nat.zero_add, Nat.add_zero, Nat.reduceAdd, Nat.reduceMul, size_newB, size_setB, blk_newB_self, own_newB_self, setB_setB, List.getElem?_toArray, List.getElem?_cons_zero, List.getElem?_cons_succ, List.length_cons, List.length_nil, List.all_cons, List.all_nil, isCell_int, isCell_bool, isCell_ptr, isCell_slice, isCell_func, Bool.and_true, Bool.and_self, and_self, if_true, List.size_toArray, and_true, true_and, Nat.reduceLeDiff, Nat.le_refl, Bool.not_true, Bool.not_false, Bool.true_and, Bool.false_and, Bool.and_false, Int.reduceBNe, Int.reduceBEq, Int.reduceLT, Int.reduceLE, decide_true, decide_false, l4, l2]
        refine brV_i (fun hlen => ?_) (fun hlen => ?_)
        · refine pack_ev h'.rep fun H2 he2 hr2 => ?_
          have hsz := eH.size
          have hx2 : own H2 H.size = some (pktC p) := he2.own hx (by simp; omega)
          have hxl := own_lt hx
          have hs2 : LogS H2 b H'.size (2 * room) room top 0 (sl.filter (·.2)) L := ⟨hr2, h.up.filter _, by rw [live_filter, h.liv], fun s hs => h.may s (List.mem_filter.1 hs).1, h.htop, h.few, filter_head⟩
          have hfl : (sl.filter (·.2)).length = L.length := by rw [← h.liv]; simp [live]
          refine Put_tail hs2 (by omega) hm' (by omega) (by omega) hx2 (by omega) (by omega) fun H3 he3 hl3 => ?_
          refine hR H3 H'.size (((eH.mono (by simp)).trans (he2.mono (by simp))).thru he3 ?_) (Or.inr hsz) hl3
          intro b' hb'
          simp only [List.mem_cons, List.not_mem_nil, or_false] at hb' ⊢
          omega
        · have hl' : (sl.length : Int) ≠ ((2 * room : Nat) : Int) := by simpa using hlen
          have h5 := h.rep.hlen
          refine Put_tail h' (by omega) hm' (by omega) (by omega) hx (by omega) (by omega) fun H3 he3 hl3 => ?_
          exact hR H3 rb ((eH.mono (by simp)).trans he3) (Or.inl rfl) hl3
end Go.Hc

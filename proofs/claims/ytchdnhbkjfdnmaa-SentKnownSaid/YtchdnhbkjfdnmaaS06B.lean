/- The log: what the functions that read do. -/
import Derived.Test.YtchdnhbkjfdnmaaS06A
set_option linter.unusedSimpArgs false
set_option linter.unusedVariables false
namespace Go.Hc
open Go

def live (sl : List (Pkt × Bool)) : List Pkt := (sl.filter (·.2)).map (·.1)
def flight : List Pkt → Int
  | [] => 0
  | p :: L => (if p.fl then p.size else 0) + flight L
def elic : List Pkt → Int
  | [] => 0
  | p :: L => (if p.fl && p.el then 1 else 0) + elic L
def RiseL (L : List Pkt) : Prop := L.Pairwise fun a b => a.num < b.num
/-- The log at b is well, and has the packets L. -/
structure LogS (H : Heap) (b rb cap room : Nat) (top : Int) (fr : Nat) (sl : List (Pkt × Bool)) (L : List Pkt) : Prop where
  rep : LogR H b rb cap room top fr sl L.length (flight L) (elic L)
  up : Up sl
  liv : live sl = L
  may : ∀ s ∈ sl, May s.1 ∧ s.1.num ≤ top
  htop : -1 ≤ top ∧ top ≤ 9007199254740991
  few : L.length ≤ room
  head : ∀ s ∈ sl.head?, s.2 = true
def LogOf (H : Heap) (b rb room : Nat) (top : Int) (L : List Pkt) : Prop := ∃ cap fr sl, LogS H b rb cap room top fr sl L

theorem LogS.ext {H H' : Heap} {b rb cap room fr : Nat} {top : Int} {sl : List (Pkt × Bool)} {L : List Pkt} {S : List Nat} (h : LogS H b rb cap room top fr sl L) (he : Ext S H H') (h1 : b ∉ S) (h2 : rb ∉ S) :
    LogS H' b rb cap room top fr sl L := ⟨h.rep.ext he h1 h2, h.up, h.liv, h.may, h.htop, h.few, h.head⟩
theorem LogOf.ext {H H' : Heap} {b rb room : Nat} {top : Int} {L : List Pkt} {S : List Nat} (h : LogOf H b rb room top L) (he : Ext S H H') (h1 : b ∉ S) (h2 : rb ∉ S) : LogOf H' b rb room top L := by
  obtain ⟨cap, fr, sl, h⟩ := h; exact ⟨cap, fr, sl, h.ext he h1 h2⟩
theorem LogOf.lt {H : Heap} {b rb room : Nat} {top : Int} {L : List Pkt} (h : LogOf H b rb room top L) : b < H.size ∧ rb < H.size := by
  obtain ⟨cap, fr, sl, h⟩ := h
  obtain ⟨c, f, hc, _⟩ := h.rep.ring
  exact ⟨own_lt h.rep.log, own_lt hc⟩
theorem mem_live {sl : List (Pkt × Bool)} {p : Pkt} : p ∈ live sl ↔ (p, true) ∈ sl := by
  simp [live]
theorem Up.unique {sl : List (Pkt × Bool)} (h : Up sl) {i j : Nat} (hi : i < sl.length) (hj : j < sl.length) (e : sl[i].1.num = sl[j].1.num) : i = j := by
  rcases Nat.lt_trichotomy i j with h1 | h1 | h1
  · have := h.lt hi hj h1; omega
  · exact h1
  · have := h.lt hj hi h1; omega
theorem Up.rise {sl : List (Pkt × Bool)} (h : Up sl) : RiseL (live sl) := by
  unfold live RiseL
  rw [List.pairwise_map]
  exact h.filter _
theorem find_live_some {sl : List (Pkt × Bool)} (h : Up sl) {i : Nat} (hi : i < sl.length) {n : Int} (hn : sl[i].1.num = n) (ht : sl[i].2 = true) :
    (live sl).find? (fun p => p.num == n) = some sl[i].1 := by
  have hm : sl[i].1 ∈ live sl := mem_live.2 (by rw [← ht]; exact List.getElem_mem hi)
  have hs : ((live sl).find? (fun p => p.num == n)).isSome := List.find?_isSome.2 ⟨_, hm, by simpa using hn⟩
  obtain ⟨q, hq⟩ := Option.isSome_iff_exists.1 hs
  rw [hq]
  have hqm := mem_live.1 (List.mem_of_find?_eq_some hq)
  have hqn := List.find?_some hq
  obtain ⟨j, hj, hjq⟩ := List.getElem_of_mem hqm
  have : j = i := h.unique hj hi (by rw [hjq, hn]; simpa using hqn)
  subst this; rw [hjq]
theorem find_live_none {sl : List (Pkt × Bool)} {n : Int} (h : ∀ i (hi : i < sl.length), sl[i].1.num = n → sl[i].2 = false) :
    (live sl).find? (fun p => p.num == n) = none := by
  rw [List.find?_eq_none]
  intro p hp hpn
  obtain ⟨j, hj, hjq⟩ := List.getElem_of_mem (mem_live.1 hp)
  have := h j hj (by rw [hjq]; simpa using hpn)
  rw [hjq] at this; simp at this

theorem slot_ev {H : Heap} {b rb cap room fr : Nat} {top ma fl el : Int} {sl : List (Pkt × Bool)} {n : Int} {R : Value → Heap → Prop} (h : LogR H b rb cap room top fr sl ma fl el) (hu : Up sl)
    (hN : ∀ H', Ext [] H H' → (∀ i (hi : i < sl.length), sl[i].1.num = n → sl[i].2 = false) → R (.pointer none) H')
    (hS : ∀ H' i (hi : i < sl.length) o c, Ext [] H H' → sl[i].1.num = n → sl[i].2 = true → blk H' rb = some c → getC c o 6 = some (pktC sl[i].1) → o = (fr + i) % (2 * room) * 7 → R (.pointer (some ⟨rb, o, none⟩)) H') :
    EvF P N.sent_Log_slot #[ptr b, iv n] H R := by
  refine sent_Log_slot_ev _ _ _ _ ?_
  have h1 := h.hroom
  simp only [sent_Log_slot_g27, sent_Log_slot_g28, sent_Log_slot_g29, sent_Log_slot_g30, sent_Log_slot_g31, sent_Log_slot_g32, sent_Log_slot_g33, sent_Log_slot_g34, sent_Log_slot_g35, sent_Log_slot_g36, sent_Log_slot]
  simp only [bnd_some, brV_t, brV_f, newE_u, pickE_t, pickE_f, nilV_p, faV_p, ldE_f, ldE_t, rdA_u, stE_p, cells_int, cells_bool, cells_ptr, cells_slice, cells_func, cells_agg, bin_add, bin_sub, bin_mul, bin_eql, bin_neq, bin_lss, bin_leq, bin_gtr, bin_geq, bin_eqlb, bin_neqb, bin_eqlp, bin_eqlp0, bin_neqp, bin_neqp0, bin_eqls, bin_eqls0, un_not, un_neg, len_s, ex_t, cv_i, callV_f, Option.bind_some, Option.map_some, Nat.zero_add, Nat.add_zero, Nat.reduceAdd, Nat.reduceMul, size_newB, size_setB, blk_newB_self, own_newB_self, wrA_b, own_setB_m, blk_setB_m, setB_setB, List.getElem?_toArray, List.getElem?_cons_zero, List.getElem?_cons_succ, List.length_cons, List.length_nil, List.all_cons, List.all_nil, isCell_int, isCell_bool, isCell_ptr, isCell_slice, isCell_func, Bool.and_true, Bool.and_self, and_self, if_true, List.size_toArray, and_true, true_and, Nat.reduceLeDiff, Nat.le_refl, Bool.not_true, Bool.not_false, Bool.true_and, Bool.false_and, Bool.and_false, Int.reduceBNe, Int.reduceBEq, Int.reduceLT, Int.reduceLE, decide_true, decide_false]
  refine none_ev h.log (by omega) ?_
  simp only [bnd_some, brV_t, brV_f, newE_u, pickE_t, pickE_f, nilV_p, faV_p, ldE_f, ldE_t, rdA_u, stE_p, cells_int, cells_bool, cells_ptr, cells_slice, cells_func, cells_agg, bin_add, bin_sub, bin_mul, bin_eql, bin_neq, bin_lss, bin_leq, bin_gtr, bin_geq, bin_eqlb, bin_neqb, bin_eqlp, bin_eqlp0, bin_neqp, bin_neqp0, bin_eqls, bin_eqls0, un_not, un_neg, len_s, ex_t, cv_i, callV_f, Option.bind_some, Option.map_some, Nat.zero_add, Nat.add_zero, Nat.reduceAdd, Nat.reduceMul, size_newB, size_setB, blk_newB_self, own_newB_self, wrA_b, own_setB_m, blk_setB_m, setB_setB, List.getElem?_toArray, List.getElem?_cons_zero, List.getElem?_cons_succ, List.length_cons, List.length_nil, List.all_cons, List.all_nil, isCell_int, isCell_bool, isCell_ptr, isCell_slice, isCell_func, Bool.and_true, Bool.and_self, and_self, if_true, List.size_toArray, and_true, true_and, Nat.reduceLeDiff, Nat.le_refl, Bool.not_true, Bool.not_false, Bool.true_and, Bool.false_and, Bool.and_false, Int.reduceBNe, Int.reduceBEq, Int.reduceLT, Int.reduceLE, decide_true, decide_false]
  refine find_ev h hu fun k H' he hk ha hb => ?_
  have h' := h.ext he (by simp) (by simp)
  simp only [bnd_some, brV_t, brV_f, newE_u, pickE_t, pickE_f, nilV_p, faV_p, ldE_f, ldE_t, rdA_u, stE_p, cells_int, cells_bool, cells_ptr, cells_slice, cells_func, cells_agg, bin_add, bin_sub, bin_mul, bin_eql, bin_neq, bin_lss, bin_leq, bin_gtr, bin_geq, bin_eqlb, bin_neqb, bin_eqlp, bin_eqlp0, bin_neqp, bin_neqp0, bin_eqls, bin_eqls0, un_not, un_neg, len_s, ex_t, cv_i, callV_f, Option.bind_some, Option.map_some, Nat.zero_add, Nat.add_zero, Nat.reduceAdd, Nat.reduceMul, size_newB, size_setB, blk_newB_self, own_newB_self, wrA_b, own_setB_m, blk_setB_m, setB_setB, List.getElem?_toArray, List.getElem?_cons_zero, List.getElem?_cons_succ, List.length_cons, List.length_nil, List.all_cons, List.all_nil, isCell_int, isCell_bool, isCell_ptr, isCell_slice, isCell_func, Bool.and_true, Bool.and_self, and_self, if_true, List.size_toArray, and_true, true_and, Nat.reduceLeDiff, Nat.le_refl, Bool.not_true, Bool.not_false, Bool.true_and, Bool.false_and, Bool.and_false, Int.reduceBNe, Int.reduceBEq, Int.reduceLT, Int.reduceLE, decide_true, decide_false, own_blk h'.log, logC_4]
  refine brV_i (fun hkl => ?_) (fun hkl => ?_)
  · refine hN H' he fun i hi hin => ?_
    have hkl' : (k : Int) = sl.length := by simpa using hkl
    have := ha i hi (by omega); omega
  · have hkl' : k < sl.length := by have : (k : Int) ≠ sl.length := by simpa using hkl
                                    omega
    refine h'.at hkl' fun o c hc h0 h6 hg ho => ?_
    simp only [bnd_some, brV_t, brV_f, newE_u, pickE_t, pickE_f, nilV_p, faV_p, ldE_f, ldE_t, rdA_u, stE_p, cells_int, cells_bool, cells_ptr, cells_slice, cells_func, cells_agg, bin_add, bin_sub, bin_mul, bin_eql, bin_neq, bin_lss, bin_leq, bin_gtr, bin_geq, bin_eqlb, bin_neqb, bin_eqlp, bin_eqlp0, bin_neqp, bin_neqp0, bin_eqls, bin_eqls0, un_not, un_neg, len_s, ex_t, cv_i, callV_f, Option.bind_some, Option.map_some, Nat.zero_add, Nat.add_zero, Nat.reduceAdd, Nat.reduceMul, size_newB, size_setB, blk_newB_self, own_newB_self, wrA_b, own_setB_m, blk_setB_m, setB_setB, List.getElem?_toArray, List.getElem?_cons_zero, List.getElem?_cons_succ, List.length_cons, List.length_nil, List.all_cons, List.all_nil, isCell_int, isCell_bool, isCell_ptr, isCell_slice, isCell_func, Bool.and_true, Bool.and_self, and_self, if_true, List.size_toArray, and_true, true_and, Nat.reduceLeDiff, Nat.le_refl, Bool.not_true, Bool.not_false, Bool.true_and, Bool.false_and, Bool.and_false, Int.reduceBNe, Int.reduceBEq, Int.reduceLT, Int.reduceLE, decide_true, decide_false, hc, h0, h6]
    refine brV_i (fun hn => ?_) (fun hn => ?_)
    · have hn' : sl[k].1.num = n := by simpa using hn
      refine brV_i (fun ht => ?_) (fun ht => ?_)
      · exact hS H' k hkl' o c he hn' ht hc hg ho
      · refine hN H' he fun i hi hin => ?_
        have : i = k := hu.unique hi hkl' (by omega)
        subst this; exact ht
    · refine hN H' he fun i hi hin => ?_
      exfalso
      have hn' : sl[k].1.num ≠ n := by simpa using hn
      rcases Nat.lt_or_ge i k with hik | hik
      · have := ha i hi hik; omega
      · have := hb k hkl' (Nat.le_refl _)
        rcases Nat.lt_or_ge k i with hki | hki
        · have := hu.lt hkl' hi hki; omega
        · have : i = k := by omega
          subst this; exact hn' hin

/-- The value of a packet. -/
abbrev pv (p : Pkt) : Value := .agg (pktC p)
def opt (o : Option Pkt) : Value := .tuple #[pv (o.getD pkt0), .bool o.isSome]
theorem pkt0_C : (#[.int .i64 0, .int .i64 0, .int .i64 0, .bool false, .bool false, .bool false] : Array Value) = pktC pkt0 := rfl
theorem splice_pkt {p q : Pkt} : splice (pktC p) 0 (pktC q).toList = pktC q := rfl
theorem pktC_l {p : Pkt} : (pktC p).toList.length = 6 := rfl
theorem pktC_a {p : Pkt} : (pktC p).toList.all isCell = true := by simp [pktC, isCell]
/-- a local packet is written -/
theorem st_pkt {H H1 : Heap} {p q : Pkt} {t : TypeId} (he : Ext [] (newB H t (pktC p)) H1) : stE 6 (ptr H.size) (pv q) H1 = some (setB H1 H.size (pktC q)) := by
  have ho : own H1 H.size = some (pktC p) := he.own own_newB_self (by simp)
  simp only [stE_p, cells_agg, pktC_s, if_true]
  rw [wrA_u ho (by rw [pktC_l]; exact Nat.le_refl _) pktC_a, splice_pkt]
theorem st_pkt' {H H1 : Heap} {p q : Pkt} {t : TypeId} (he : Ext [] (newB H t (pktC p)) H1) : ldE true 6 (ptr H.size) (setB H1 H.size (pktC q)) = some (pv q) := by
  have ho : own H1 H.size = some (pktC p) := he.own own_newB_self (by simp)
  simp only [ldE_t, rdA_u, own_blk (own_setB_same ho), Option.bind_some, pktC_g, Option.map_some]
theorem ld_pkt {H H1 : Heap} {p : Pkt} {t : TypeId} (he : Ext [] (newB H t (pktC p)) H1) : ldE true 6 (ptr H.size) H1 = some (pv p) := by
  have ho : own H1 H.size = some (pktC p) := he.own own_newB_self (by simp)
  simp only [ldE_t, rdA_u, own_blk ho, Option.bind_some, pktC_g, Option.map_some]
theorem ext_pkt {H H1 : Heap} {p q : Pkt} {t : TypeId} (he : Ext [] (newB H t (pktC p)) H1) : Ext [] H (setB H1 H.size (pktC q)) :=
  (((Ext.refl _ _).newB t (pktC p)).trans he).setB _ _ (Or.inr (Nat.le_refl _))

theorem Get_ev {H : Heap} {b rb room : Nat} {top : Int} {L : List Pkt} {n : Int} {R : Value → Heap → Prop} (h : LogOf H b rb room top L)
    (hR : ∀ H', Ext [] H H' → R (opt (L.find? fun p => p.num == n)) H') : EvF P N.sent_Log_Get #[ptr b, iv n] H R := by
  obtain ⟨cap, fr, sl, h⟩ := h
  refine sent_Log_Get_ev _ _ _ _ ?_
  simp only [sent_Log_Get_g13, sent_Log_Get_g14, sent_Log_Get_g15, sent_Log_Get_g16, sent_Log_Get_g17, sent_Log_Get]
  simp only [bnd_some, brV_t, brV_f, newE_u, pickE_t, pickE_f, nilV_p, faV_p, cells_int, cells_bool, cells_ptr, cells_slice, cells_func, cells_agg, bin_eql, bin_neq, bin_lss, bin_leq, bin_gtr, bin_geq, bin_eqlb, bin_neqb, bin_eqlp, bin_eqlp0, bin_neqp, bin_neqp0, bin_eqls, bin_eqls0, un_not, un_neg, len_s, ex_t, cv_i, callV_f, Option.bind_some, Option.map_some, Nat.zero_add, Nat.add_zero, Nat.reduceAdd, Nat.reduceMul, size_newB, size_setB, blk_newB_self, own_newB_self, setB_setB, List.getElem?_toArray, List.getElem?_cons_zero, List.getElem?_cons_succ, List.length_cons, List.length_nil, List.all_cons, List.all_nil, isCell_int, isCell_bool, isCell_ptr, isCell_slice, isCell_func, Bool.and_true, Bool.and_self, and_self, if_true, List.size_toArray, and_true, true_and, Nat.reduceLeDiff, Nat.le_refl, Bool.not_true, Bool.not_false, Bool.true_and, Bool.false_and, Bool.and_false, Int.reduceBNe, Int.reduceBEq, Int.reduceLT, Int.reduceLE, decide_true, decide_false, pkt0_C]
  have e0 : Ext [] H (newB H 30 (pktC pkt0)) := (Ext.refl _ _).newB _ _
  have h0 := h.ext e0 (by simp) (by simp)
  refine slot_ev h0.rep h0.up (fun H' he hn => ?_) (fun H' i hi o c he hn ht hc hg ho => ?_)
  · simp only [bnd_some, brV_t, brV_f, newE_u, pickE_t, pickE_f, nilV_p, faV_p, cells_int, cells_bool, cells_ptr, cells_slice, cells_func, cells_agg, bin_eql, bin_neq, bin_lss, bin_leq, bin_gtr, bin_geq, bin_eqlb, bin_neqb, bin_eqlp, bin_eqlp0, bin_neqp, bin_neqp0, bin_eqls, bin_eqls0, un_not, un_neg, len_s, ex_t, cv_i, callV_f, Option.bind_some, Option.map_some, Nat.zero_add, Nat.add_zero, Nat.reduceAdd, Nat.reduceMul, size_newB, size_setB, blk_newB_self, own_newB_self, setB_setB, List.getElem?_toArray, List.getElem?_cons_zero, List.getElem?_cons_succ, List.length_cons, List.length_nil, List.all_cons, List.all_nil, isCell_int, isCell_bool, isCell_ptr, isCell_slice, isCell_func, Bool.and_true, Bool.and_self, and_self, if_true, List.size_toArray, and_true, true_and, Nat.reduceLeDiff, Nat.le_refl, Bool.not_true, Bool.not_false, Bool.true_and, Bool.false_and, Bool.and_false, Int.reduceBNe, Int.reduceBEq, Int.reduceLT, Int.reduceLE, decide_true, decide_false, Option.isNone_none, ld_pkt he, st_pkt he, st_pkt' he]
    have := hR _ (ext_pkt (q := pkt0) he)
    rw [← h.liv, find_live_none hn] at this; exact this
  · have hl : ldE true 6 (.pointer (some ⟨rb, o, none⟩)) H' = some (pv sl[i].1) := by simp only [ldE_t, rdA_u, hc, Option.bind_some, hg, Option.map_some]
    simp only [bnd_some, brV_t, brV_f, newE_u, pickE_t, pickE_f, nilV_p, faV_p, cells_int, cells_bool, cells_ptr, cells_slice, cells_func, cells_agg, bin_eql, bin_neq, bin_lss, bin_leq, bin_gtr, bin_geq, bin_eqlb, bin_neqb, bin_eqlp, bin_eqlp0, bin_neqp, bin_neqp0, bin_eqls, bin_eqls0, un_not, un_neg, len_s, ex_t, cv_i, callV_f, Option.bind_some, Option.map_some, Nat.zero_add, Nat.add_zero, Nat.reduceAdd, Nat.reduceMul, size_newB, size_setB, blk_newB_self, own_newB_self, setB_setB, List.getElem?_toArray, List.getElem?_cons_zero, List.getElem?_cons_succ, List.length_cons, List.length_nil, List.all_cons, List.all_nil, isCell_int, isCell_bool, isCell_ptr, isCell_slice, isCell_func, Bool.and_true, Bool.and_self, and_self, if_true, List.size_toArray, and_true, true_and, Nat.reduceLeDiff, Nat.le_refl, Bool.not_true, Bool.not_false, Bool.true_and, Bool.false_and, Bool.and_false, Int.reduceBNe, Int.reduceBEq, Int.reduceLT, Int.reduceLE, decide_true, decide_false, hl, st_pkt he, st_pkt' he]
    have := hR _ (ext_pkt (q := sl[i].1) he)
    rw [← h.liv, find_live_some h.up hi hn ht] at this; exact this
theorem Oldest_ev {H : Heap} {b rb room : Nat} {top : Int} {L : List Pkt} {R : Value → Heap → Prop} (h : LogOf H b rb room top L)
    (hR : ∀ H', Ext [] H H' → R (opt L.head?) H') : EvF P N.sent_Log_Oldest #[ptr b] H R := by
  obtain ⟨cap, fr, sl, h⟩ := h
  refine sent_Log_Oldest_ev _ _ _ ?_
  simp only [sent_Log_Oldest_g11, sent_Log_Oldest_g12, sent_Log_Oldest_g13, sent_Log_Oldest_g14, sent_Log_Oldest]
  simp only [bnd_some, brV_t, brV_f, newE_u, pickE_t, pickE_f, nilV_p, faV_p, cells_int, cells_bool, cells_ptr, cells_slice, cells_func, cells_agg, bin_eql, bin_neq, bin_lss, bin_leq, bin_gtr, bin_geq, bin_eqlb, bin_neqb, bin_eqlp, bin_eqlp0, bin_neqp, bin_neqp0, bin_eqls, bin_eqls0, un_not, un_neg, len_s, ex_t, cv_i, callV_f, Option.bind_some, Option.map_some, Nat.zero_add, Nat.add_zero, Nat.reduceAdd, Nat.reduceMul, size_newB, size_setB, blk_newB_self, own_newB_self, setB_setB, List.getElem?_toArray, List.getElem?_cons_zero, List.getElem?_cons_succ, List.length_cons, List.length_nil, List.all_cons, List.all_nil, isCell_int, isCell_bool, isCell_ptr, isCell_slice, isCell_func, Bool.and_true, Bool.and_self, and_self, if_true, List.size_toArray, and_true, true_and, Nat.reduceLeDiff, Nat.le_refl, Bool.not_true, Bool.not_false, Bool.true_and, Bool.false_and, Bool.and_false, Int.reduceBNe, Int.reduceBEq, Int.reduceLT, Int.reduceLE, decide_true, decide_false, pkt0_C]
  have e0 : Ext [] H (newB H 30 (pktC pkt0)) := (Ext.refl _ _).newB _ _
  have h0 := h.ext e0 (by simp) (by simp)
  have er := Ext.refl [] (newB H 30 (pktC pkt0))
  have hroom := h.rep.hroom
  refine none_ev h0.rep.log (by omega) ?_
  simp only [bnd_some, brV_t, brV_f, newE_u, pickE_t, pickE_f, nilV_p, faV_p, cells_int, cells_bool, cells_ptr, cells_slice, cells_func, cells_agg, bin_eql, bin_neq, bin_lss, bin_leq, bin_gtr, bin_geq, bin_eqlb, bin_neqb, bin_eqlp, bin_eqlp0, bin_neqp, bin_neqp0, bin_eqls, bin_eqls0, un_not, un_neg, len_s, ex_t, cv_i, callV_f, Option.bind_some, Option.map_some, Nat.zero_add, Nat.add_zero, Nat.reduceAdd, Nat.reduceMul, size_newB, size_setB, blk_newB_self, own_newB_self, setB_setB, List.getElem?_toArray, List.getElem?_cons_zero, List.getElem?_cons_succ, List.length_cons, List.length_nil, List.all_cons, List.all_nil, isCell_int, isCell_bool, isCell_ptr, isCell_slice, isCell_func, Bool.and_true, Bool.and_self, and_self, if_true, List.size_toArray, and_true, true_and, Nat.reduceLeDiff, Nat.le_refl, Bool.not_true, Bool.not_false, Bool.true_and, Bool.false_and, Bool.and_false, Int.reduceBNe, Int.reduceBEq, Int.reduceLT, Int.reduceLE, decide_true, decide_false, ldE_f, own_blk h0.rep.log, logC_4]
  refine brV_i (fun hl => ?_) (fun hl => ?_)
  · have hl' : sl = [] := by have : (sl.length : Int) = 0 := by simpa using hl
                             exact List.length_eq_zero_iff.1 (by omega)
    simp only [bnd_some, brV_t, brV_f, newE_u, pickE_t, pickE_f, nilV_p, faV_p, cells_int, cells_bool, cells_ptr, cells_slice, cells_func, cells_agg, bin_eql, bin_neq, bin_lss, bin_leq, bin_gtr, bin_geq, bin_eqlb, bin_neqb, bin_eqlp, bin_eqlp0, bin_neqp, bin_neqp0, bin_eqls, bin_eqls0, un_not, un_neg, len_s, ex_t, cv_i, callV_f, Option.bind_some, Option.map_some, Nat.zero_add, Nat.add_zero, Nat.reduceAdd, Nat.reduceMul, size_newB, size_setB, blk_newB_self, own_newB_self, setB_setB, List.getElem?_toArray, List.getElem?_cons_zero, List.getElem?_cons_succ, List.length_cons, List.length_nil, List.all_cons, List.all_nil, isCell_int, isCell_bool, isCell_ptr, isCell_slice, isCell_func, Bool.and_true, Bool.and_self, and_self, if_true, List.size_toArray, and_true, true_and, Nat.reduceLeDiff, Nat.le_refl, Bool.not_true, Bool.not_false, Bool.true_and, Bool.false_and, Bool.and_false, Int.reduceBNe, Int.reduceBEq, Int.reduceLT, Int.reduceLE, decide_true, decide_false, ld_pkt er, st_pkt er, st_pkt' er]
    have := hR _ (ext_pkt (q := pkt0) er)
    rw [← h.liv, hl'] at this; exact this
  · have hl' : 0 < sl.length := by have : (sl.length : Int) ≠ 0 := by simpa using hl
                                   omega
    have h0at := fun R => h0.rep.at (i := 0) hl' (R := R)
    refine h0at _ fun o c hc _ _ hg ho => ?_
    have hl : ldE true 6 (.pointer (some ⟨rb, o, none⟩)) (newB H 30 (pktC pkt0)) = some (pv sl[0].1) := by simp only [ldE_t, rdA_u, hc, Option.bind_some, hg, Option.map_some]
    simp only [bnd_some, brV_t, brV_f, newE_u, pickE_t, pickE_f, nilV_p, faV_p, cells_int, cells_bool, cells_ptr, cells_slice, cells_func, cells_agg, bin_eql, bin_neq, bin_lss, bin_leq, bin_gtr, bin_geq, bin_eqlb, bin_neqb, bin_eqlp, bin_eqlp0, bin_neqp, bin_neqp0, bin_eqls, bin_eqls0, un_not, un_neg, len_s, ex_t, cv_i, callV_f, Option.bind_some, Option.map_some, Nat.zero_add, Nat.add_zero, Nat.reduceAdd, Nat.reduceMul, size_newB, size_setB, blk_newB_self, own_newB_self, setB_setB, List.getElem?_toArray, List.getElem?_cons_zero, List.getElem?_cons_succ, List.length_cons, List.length_nil, List.all_cons, List.all_nil, isCell_int, isCell_bool, isCell_ptr, isCell_slice, isCell_func, Bool.and_true, Bool.and_self, and_self, if_true, List.size_toArray, and_true, true_and, Nat.reduceLeDiff, Nat.le_refl, Bool.not_true, Bool.not_false, Bool.true_and, Bool.false_and, Bool.and_false, Int.reduceBNe, Int.reduceBEq, Int.reduceLT, Int.reduceLE, decide_true, decide_false, hl, st_pkt er, st_pkt' er]
    have := hR _ (ext_pkt (q := sl[0].1) er)
    have hh : L.head? = some sl[0].1 := by
      rw [← h.liv]
      cases sl with
      | nil => simp at hl'
      | cons s sl => have := h.head s (by simp); simp [live, this]
    rw [hh] at this; exact this
theorem Last_ev {H : Heap} {b rb room : Nat} {top : Int} {L : List Pkt} {R : Value → Heap → Prop} (h : LogOf H b rb room top L)
    (hR : R (iv top) H) : EvF P N.sent_Log_Last #[ptr b] H R := by
  obtain ⟨cap, fr, sl, h⟩ := h
  have hroom := h.rep.hroom
  refine sent_Log_Last_ev _ _ _ ?_
  simp only [sent_Log_Last_g11, sent_Log_Last_g12, sent_Log_Last_g13, sent_Log_Last_g14, sent_Log_Last]
  simp only [bnd_some, brV_t, brV_f, newE_u, pickE_t, pickE_f, nilV_p, faV_p, ldE_f, ldE_t, rdA_u, stE_p, cells_int, cells_bool, cells_ptr, cells_slice, cells_func, cells_agg, bin_add, bin_sub, bin_mul, bin_eql, bin_neq, bin_lss, bin_leq, bin_gtr, bin_geq, bin_eqlb, bin_neqb, bin_eqlp, bin_eqlp0, bin_neqp, bin_neqp0, bin_eqls, bin_eqls0, un_not, un_neg, len_s, ex_t, cv_i, callV_f, Option.bind_some, Option.map_some, Nat.zero_add, Nat.add_zero, Nat.reduceAdd, Nat.reduceMul, size_newB, size_setB, blk_newB_self, own_newB_self, wrA_b, own_setB_m, blk_setB_m, setB_setB, List.getElem?_toArray, List.getElem?_cons_zero, List.getElem?_cons_succ, List.length_cons, List.length_nil, List.all_cons, List.all_nil, isCell_int, isCell_bool, isCell_ptr, isCell_slice, isCell_func, Bool.and_true, Bool.and_self, and_self, if_true, List.size_toArray, and_true, true_and, Nat.reduceLeDiff, Nat.le_refl, Bool.not_true, Bool.not_false, Bool.true_and, Bool.false_and, Bool.and_false, Int.reduceBNe, Int.reduceBEq, Int.reduceLT, Int.reduceLE, decide_true, decide_false]
  refine none_ev h.rep.log (by omega) ?_
  simp only [bnd_some, brV_t, brV_f, newE_u, pickE_t, pickE_f, nilV_p, faV_p, ldE_f, ldE_t, rdA_u, stE_p, cells_int, cells_bool, cells_ptr, cells_slice, cells_func, cells_agg, bin_add, bin_sub, bin_mul, bin_eql, bin_neq, bin_lss, bin_leq, bin_gtr, bin_geq, bin_eqlb, bin_neqb, bin_eqlp, bin_eqlp0, bin_neqp, bin_neqp0, bin_eqls, bin_eqls0, un_not, un_neg, len_s, ex_t, cv_i, callV_f, Option.bind_some, Option.map_some, Nat.zero_add, Nat.add_zero, Nat.reduceAdd, Nat.reduceMul, size_newB, size_setB, blk_newB_self, own_newB_self, wrA_b, own_setB_m, blk_setB_m, setB_setB, List.getElem?_toArray, List.getElem?_cons_zero, List.getElem?_cons_succ, List.length_cons, List.length_nil, List.all_cons, List.all_nil, isCell_int, isCell_bool, isCell_ptr, isCell_slice, isCell_func, Bool.and_true, Bool.and_self, and_self, if_true, List.size_toArray, and_true, true_and, Nat.reduceLeDiff, Nat.le_refl, Bool.not_true, Bool.not_false, Bool.true_and, Bool.false_and, Bool.and_false, Int.reduceBNe, Int.reduceBEq, Int.reduceLT, Int.reduceLE, decide_true, decide_false, own_blk h.rep.log, logC_1]
  exact hR
theorem Len_ev {H : Heap} {b rb room : Nat} {top : Int} {L : List Pkt} {R : Value → Heap → Prop} (h : LogOf H b rb room top L)
    (hR : ∀ H', Ext [] H H' → R (iv L.length) H') : EvF P N.sent_Log_Len #[ptr b] H R := by
  obtain ⟨cap, fr, sl, h⟩ := h
  have hroom := h.rep.hroom
  refine sent_Log_Len_ev _ _ _ ?_
  have e0 : Ext [] H (newB H 23 #[ptr b]) := (Ext.refl _ _).newB _ _
  have h0 := h.rep.ext e0 (by simp) (by simp)
  simp only [sent_Log_Len_g5, sent_Log_Len_g6, sent_Log_Len]
  simp only [bnd_some, brV_t, brV_f, newE_u, pickE_t, pickE_f, nilV_p, faV_p, ldE_f, ldE_t, rdA_u, stE_p, cells_int, cells_bool, cells_ptr, cells_slice, cells_func, cells_agg, bin_add, bin_sub, bin_mul, bin_eql, bin_neq, bin_lss, bin_leq, bin_gtr, bin_geq, bin_eqlb, bin_neqb, bin_eqlp, bin_eqlp0, bin_neqp, bin_neqp0, bin_eqls, bin_eqls0, un_not, un_neg, len_s, ex_t, cv_i, callV_f, Option.bind_some, Option.map_some, Nat.zero_add, Nat.add_zero, Nat.reduceAdd, Nat.reduceMul, size_newB, size_setB, blk_newB_self, own_newB_self, wrA_b, own_setB_m, blk_setB_m, setB_setB, List.getElem?_toArray, List.getElem?_cons_zero, List.getElem?_cons_succ, List.length_cons, List.length_nil, List.all_cons, List.all_nil, isCell_int, isCell_bool, isCell_ptr, isCell_slice, isCell_func, Bool.and_true, Bool.and_self, and_self, if_true, List.size_toArray, and_true, true_and, Nat.reduceLeDiff, Nat.le_refl, Bool.not_true, Bool.not_false, Bool.true_and, Bool.false_and, Bool.and_false, Int.reduceBNe, Int.reduceBEq, Int.reduceLT, Int.reduceLE, decide_true, decide_false]
  refine sent_Log_total_ev _ _ _ _ ?_
  simp only [sent_Log_total_g11, sent_Log_total_g12, sent_Log_total_g13, sent_Log_total_g14, sent_Log_total]
  simp only [bnd_some, brV_t, brV_f, newE_u, pickE_t, pickE_f, nilV_p, faV_p, ldE_f, ldE_t, rdA_u, stE_p, cells_int, cells_bool, cells_ptr, cells_slice, cells_func, cells_agg, bin_add, bin_sub, bin_mul, bin_eql, bin_neq, bin_lss, bin_leq, bin_gtr, bin_geq, bin_eqlb, bin_neqb, bin_eqlp, bin_eqlp0, bin_neqp, bin_neqp0, bin_eqls, bin_eqls0, un_not, un_neg, len_s, ex_t, cv_i, callV_f, Option.bind_some, Option.map_some, Nat.zero_add, Nat.add_zero, Nat.reduceAdd, Nat.reduceMul, size_newB, size_setB, blk_newB_self, own_newB_self, wrA_b, own_setB_m, blk_setB_m, setB_setB, List.getElem?_toArray, List.getElem?_cons_zero, List.getElem?_cons_succ, List.length_cons, List.length_nil, List.all_cons, List.all_nil, isCell_int, isCell_bool, isCell_ptr, isCell_slice, isCell_func, Bool.and_true, Bool.and_self, and_self, if_true, List.size_toArray, and_true, true_and, Nat.reduceLeDiff, Nat.le_refl, Bool.not_true, Bool.not_false, Bool.true_and, Bool.false_and, Bool.and_false, Int.reduceBNe, Int.reduceBEq, Int.reduceLT, Int.reduceLE, decide_true, decide_false]
  refine none_ev h0.log (by omega) ?_
  simp only [bnd_some, brV_t, brV_f, newE_u, pickE_t, pickE_f, nilV_p, faV_p, ldE_f, ldE_t, rdA_u, stE_p, cells_int, cells_bool, cells_ptr, cells_slice, cells_func, cells_agg, bin_add, bin_sub, bin_mul, bin_eql, bin_neq, bin_lss, bin_leq, bin_gtr, bin_geq, bin_eqlb, bin_neqb, bin_eqlp, bin_eqlp0, bin_neqp, bin_neqp0, bin_eqls, bin_eqls0, un_not, un_neg, len_s, ex_t, cv_i, callV_f, Option.bind_some, Option.map_some, Nat.zero_add, Nat.add_zero, Nat.reduceAdd, Nat.reduceMul, size_newB, size_setB, blk_newB_self, own_newB_self, wrA_b, own_setB_m, blk_setB_m, setB_setB, List.getElem?_toArray, List.getElem?_cons_zero, List.getElem?_cons_succ, List.length_cons, List.length_nil, List.all_cons, List.all_nil, isCell_int, isCell_bool, isCell_ptr, isCell_slice, isCell_func, Bool.and_true, Bool.and_self, and_self, if_true, List.size_toArray, and_true, true_and, Nat.reduceLeDiff, Nat.le_refl, Bool.not_true, Bool.not_false, Bool.true_and, Bool.false_and, Bool.and_false, Int.reduceBNe, Int.reduceBEq, Int.reduceLT, Int.reduceLE, decide_true, decide_false, Array.toList_empty, List.nil_append, List.append_nil]
  refine sent_Log_Len_1_ev _ _ _ ?_
  simp only [sent_Log_Len_1_g5, sent_Log_Len_1_g6, sent_Log_Len_1]
  simp only [bnd_some, brV_t, brV_f, newE_u, pickE_t, pickE_f, nilV_p, faV_p, ldE_f, ldE_t, rdA_u, stE_p, cells_int, cells_bool, cells_ptr, cells_slice, cells_func, cells_agg, bin_add, bin_sub, bin_mul, bin_eql, bin_neq, bin_lss, bin_leq, bin_gtr, bin_geq, bin_eqlb, bin_neqb, bin_eqlp, bin_eqlp0, bin_neqp, bin_neqp0, bin_eqls, bin_eqls0, un_not, un_neg, len_s, ex_t, cv_i, callV_f, Option.bind_some, Option.map_some, Nat.zero_add, Nat.add_zero, Nat.reduceAdd, Nat.reduceMul, size_newB, size_setB, blk_newB_self, own_newB_self, wrA_b, own_setB_m, blk_setB_m, setB_setB, List.getElem?_toArray, List.getElem?_cons_zero, List.getElem?_cons_succ, List.length_cons, List.length_nil, List.all_cons, List.all_nil, isCell_int, isCell_bool, isCell_ptr, isCell_slice, isCell_func, Bool.and_true, Bool.and_self, and_self, if_true, List.size_toArray, and_true, true_and, Nat.reduceLeDiff, Nat.le_refl, Bool.not_true, Bool.not_false, Bool.true_and, Bool.false_and, Bool.and_false, Int.reduceBNe, Int.reduceBEq, Int.reduceLT, Int.reduceLE, decide_true, decide_false, own_blk h0.log, logC_5]
  exact hR _ e0
theorem Flight_ev {H : Heap} {b rb room : Nat} {top : Int} {L : List Pkt} {R : Value → Heap → Prop} (h : LogOf H b rb room top L)
    (hR : ∀ H', Ext [] H H' → R (iv (flight L)) H') : EvF P N.sent_Log_Flight #[ptr b] H R := by
  obtain ⟨cap, fr, sl, h⟩ := h
  have hroom := h.rep.hroom
  refine sent_Log_Flight_ev _ _ _ ?_
  have e0 : Ext [] H (newB H 23 #[ptr b]) := (Ext.refl _ _).newB _ _
  have h0 := h.rep.ext e0 (by simp) (by simp)
  simp only [sent_Log_Flight_g5, sent_Log_Flight_g6, sent_Log_Flight]
  simp only [bnd_some, brV_t, brV_f, newE_u, pickE_t, pickE_f, nilV_p, faV_p, ldE_f, ldE_t, rdA_u, stE_p, cells_int, cells_bool, cells_ptr, cells_slice, cells_func, cells_agg, bin_add, bin_sub, bin_mul, bin_eql, bin_neq, bin_lss, bin_leq, bin_gtr, bin_geq, bin_eqlb, bin_neqb, bin_eqlp, bin_eqlp0, bin_neqp, bin_neqp0, bin_eqls, bin_eqls0, un_not, un_neg, len_s, ex_t, cv_i, callV_f, Option.bind_some, Option.map_some, Nat.zero_add, Nat.add_zero, Nat.reduceAdd, Nat.reduceMul, size_newB, size_setB, blk_newB_self, own_newB_self, wrA_b, own_setB_m, blk_setB_m, setB_setB, List.getElem?_toArray, List.getElem?_cons_zero, List.getElem?_cons_succ, List.length_cons, List.length_nil, List.all_cons, List.all_nil, isCell_int, isCell_bool, isCell_ptr, isCell_slice, isCell_func, Bool.and_true, Bool.and_self, and_self, if_true, List.size_toArray, and_true, true_and, Nat.reduceLeDiff, Nat.le_refl, Bool.not_true, Bool.not_false, Bool.true_and, Bool.false_and, Bool.and_false, Int.reduceBNe, Int.reduceBEq, Int.reduceLT, Int.reduceLE, decide_true, decide_false]
  refine sent_Log_total_ev _ _ _ _ ?_
  simp only [sent_Log_total_g11, sent_Log_total_g12, sent_Log_total_g13, sent_Log_total_g14, sent_Log_total]
  simp only [bnd_some, brV_t, brV_f, newE_u, pickE_t, pickE_f, nilV_p, faV_p, ldE_f, ldE_t, rdA_u, stE_p, cells_int, cells_bool, cells_ptr, cells_slice, cells_func, cells_agg, bin_add, bin_sub, bin_mul, bin_eql, bin_neq, bin_lss, bin_leq, bin_gtr, bin_geq, bin_eqlb, bin_neqb, bin_eqlp, bin_eqlp0, bin_neqp, bin_neqp0, bin_eqls, bin_eqls0, un_not, un_neg, len_s, ex_t, cv_i, callV_f, Option.bind_some, Option.map_some, Nat.zero_add, Nat.add_zero, Nat.reduceAdd, Nat.reduceMul, size_newB, size_setB, blk_newB_self, own_newB_self, wrA_b, own_setB_m, blk_setB_m, setB_setB, List.getElem?_toArray, List.getElem?_cons_zero, List.getElem?_cons_succ, List.length_cons, List.length_nil, List.all_cons, List.all_nil, isCell_int, isCell_bool, isCell_ptr, isCell_slice, isCell_func, Bool.and_true, Bool.and_self, and_self, if_true, List.size_toArray, and_true, true_and, Nat.reduceLeDiff, Nat.le_refl, Bool.not_true, Bool.not_false, Bool.true_and, Bool.false_and, Bool.and_false, Int.reduceBNe, Int.reduceBEq, Int.reduceLT, Int.reduceLE, decide_true, decide_false]
  refine none_ev h0.log (by omega) ?_
  simp only [bnd_some, brV_t, brV_f, newE_u, pickE_t, pickE_f, nilV_p, faV_p, ldE_f, ldE_t, rdA_u, stE_p, cells_int, cells_bool, cells_ptr, cells_slice, cells_func, cells_agg, bin_add, bin_sub, bin_mul, bin_eql, bin_neq, bin_lss, bin_leq, bin_gtr, bin_geq, bin_eqlb, bin_neqb, bin_eqlp, bin_eqlp0, bin_neqp, bin_neqp0, bin_eqls, bin_eqls0, un_not, un_neg, len_s, ex_t, cv_i, callV_f, Option.bind_some, Option.map_some, Nat.zero_add, Nat.add_zero, Nat.reduceAdd, Nat.reduceMul, size_newB, size_setB, blk_newB_self, own_newB_self, wrA_b, own_setB_m, blk_setB_m, setB_setB, List.getElem?_toArray, List.getElem?_cons_zero, List.getElem?_cons_succ, List.length_cons, List.length_nil, List.all_cons, List.all_nil, isCell_int, isCell_bool, isCell_ptr, isCell_slice, isCell_func, Bool.and_true, Bool.and_self, and_self, if_true, List.size_toArray, and_true, true_and, Nat.reduceLeDiff, Nat.le_refl, Bool.not_true, Bool.not_false, Bool.true_and, Bool.false_and, Bool.and_false, Int.reduceBNe, Int.reduceBEq, Int.reduceLT, Int.reduceLE, decide_true, decide_false, Array.toList_empty, List.nil_append, List.append_nil]
  refine sent_Log_Flight_1_ev _ _ _ ?_
  simp only [sent_Log_Flight_1_g5, sent_Log_Flight_1_g6, sent_Log_Flight_1]
  simp only [bnd_some, brV_t, brV_f, newE_u, pickE_t, pickE_f, nilV_p, faV_p, ldE_f, ldE_t, rdA_u, stE_p, cells_int, cells_bool, cells_ptr, cells_slice, cells_func, cells_agg, bin_add, bin_sub, bin_mul, bin_eql, bin_neq, bin_lss, bin_leq, bin_gtr, bin_geq, bin_eqlb, bin_neqb, bin_eqlp, bin_eqlp0, bin_neqp, bin_neqp0, bin_eqls, bin_eqls0, un_not, un_neg, len_s, ex_t, cv_i, callV_f, Option.bind_some, Option.map_some, Nat.zero_add, Nat.add_zero, Nat.reduceAdd, Nat.reduceMul, size_newB, size_setB, blk_newB_self, own_newB_self, wrA_b, own_setB_m, blk_setB_m, setB_setB, List.getElem?_toArray, List.getElem?_cons_zero, List.getElem?_cons_succ, List.length_cons, List.length_nil, List.all_cons, List.all_nil, isCell_int, isCell_bool, isCell_ptr, isCell_slice, isCell_func, Bool.and_true, Bool.and_self, and_self, if_true, List.size_toArray, and_true, true_and, Nat.reduceLeDiff, Nat.le_refl, Bool.not_true, Bool.not_false, Bool.true_and, Bool.false_and, Bool.and_false, Int.reduceBNe, Int.reduceBEq, Int.reduceLT, Int.reduceLE, decide_true, decide_false, own_blk h0.log, logC_6]
  exact hR _ e0
theorem Eliciting_ev {H : Heap} {b rb room : Nat} {top : Int} {L : List Pkt} {R : Value → Heap → Prop} (h : LogOf H b rb room top L)
    (hR : ∀ H', Ext [] H H' → R (iv (elic L)) H') : EvF P N.sent_Log_Eliciting #[ptr b] H R := by
  obtain ⟨cap, fr, sl, h⟩ := h
  have hroom := h.rep.hroom
  refine sent_Log_Eliciting_ev _ _ _ ?_
  have e0 : Ext [] H (newB H 23 #[ptr b]) := (Ext.refl _ _).newB _ _
  have h0 := h.rep.ext e0 (by simp) (by simp)
  simp only [sent_Log_Eliciting_g5, sent_Log_Eliciting_g6, sent_Log_Eliciting]
  simp only [bnd_some, brV_t, brV_f, newE_u, pickE_t, pickE_f, nilV_p, faV_p, ldE_f, ldE_t, rdA_u, stE_p, cells_int, cells_bool, cells_ptr, cells_slice, cells_func, cells_agg, bin_add, bin_sub, bin_mul, bin_eql, bin_neq, bin_lss, bin_leq, bin_gtr, bin_geq, bin_eqlb, bin_neqb, bin_eqlp, bin_eqlp0, bin_neqp, bin_neqp0, bin_eqls, bin_eqls0, un_not, un_neg, len_s, ex_t, cv_i, callV_f, Option.bind_some, Option.map_some, Nat.zero_add, Nat.add_zero, Nat.reduceAdd, Nat.reduceMul, size_newB, size_setB, blk_newB_self, own_newB_self, wrA_b, own_setB_m, blk_setB_m, setB_setB, List.getElem?_toArray, List.getElem?_cons_zero, List.getElem?_cons_succ, List.length_cons, List.length_nil, List.all_cons, List.all_nil, isCell_int, isCell_bool, isCell_ptr, isCell_slice, isCell_func, Bool.and_true, Bool.and_self, and_self, if_true, List.size_toArray, and_true, true_and, Nat.reduceLeDiff, Nat.le_refl, Bool.not_true, Bool.not_false, Bool.true_and, Bool.false_and, Bool.and_false, Int.reduceBNe, Int.reduceBEq, Int.reduceLT, Int.reduceLE, decide_true, decide_false]
  refine sent_Log_total_ev _ _ _ _ ?_
  simp only [sent_Log_total_g11, sent_Log_total_g12, sent_Log_total_g13, sent_Log_total_g14, sent_Log_total]
  simp only [bnd_some, brV_t, brV_f, newE_u, pickE_t, pickE_f, nilV_p, faV_p, ldE_f, ldE_t, rdA_u, stE_p, cells_int, cells_bool, cells_ptr, cells_slice, cells_func, cells_agg, bin_add, bin_sub, bin_mul, bin_eql, bin_neq, bin_lss, bin_leq, bin_gtr, bin_geq, bin_eqlb, bin_neqb, bin_eqlp, bin_eqlp0, bin_neqp, bin_neqp0, bin_eqls, bin_eqls0, un_not, un_neg, len_s, ex_t, cv_i, callV_f, Option.bind_some, Option.map_some, Nat.zero_add, Nat.add_zero, Nat.reduceAdd, Nat.reduceMul, size_newB, size_setB, blk_newB_self, own_newB_self, wrA_b, own_setB_m, blk_setB_m, setB_setB, List.getElem?_toArray, List.getElem?_cons_zero, List.getElem?_cons_succ, List.length_cons, List.length_nil, List.all_cons, List.all_nil, isCell_int, isCell_bool, isCell_ptr, isCell_slice, isCell_func, Bool.and_true, Bool.and_self, and_self, if_true, List.size_toArray, and_true, true_and, Nat.reduceLeDiff, Nat.le_refl, Bool.not_true, Bool.not_false, Bool.true_and, Bool.false_and, Bool.and_false, Int.reduceBNe, Int.reduceBEq, Int.reduceLT, Int.reduceLE, decide_true, decide_false]
  refine none_ev h0.log (by omega) ?_
  simp only [bnd_some, brV_t, brV_f, newE_u, pickE_t, pickE_f, nilV_p, faV_p, ldE_f, ldE_t, rdA_u, stE_p, cells_int, cells_bool, cells_ptr, cells_slice, cells_func, cells_agg, bin_add, bin_sub, bin_mul, bin_eql, bin_neq, bin_lss, bin_leq, bin_gtr, bin_geq, bin_eqlb, bin_neqb, bin_eqlp, bin_eqlp0, bin_neqp, bin_neqp0, bin_eqls, bin_eqls0, un_not, un_neg, len_s, ex_t, cv_i, callV_f, Option.bind_some, Option.map_some, Nat.zero_add, Nat.add_zero, Nat.reduceAdd, Nat.reduceMul, size_newB, size_setB, blk_newB_self, own_newB_self, wrA_b, own_setB_m, blk_setB_m, setB_setB, List.getElem?_toArray, List.getElem?_cons_zero, List.getElem?_cons_succ, List.length_cons, List.length_nil, List.all_cons, List.all_nil, isCell_int, isCell_bool, isCell_ptr, isCell_slice, isCell_func, Bool.and_true, Bool.and_self, and_self, if_true, List.size_toArray, and_true, true_and, Nat.reduceLeDiff, Nat.le_refl, Bool.not_true, Bool.not_false, Bool.true_and, Bool.false_and, Bool.and_false, Int.reduceBNe, Int.reduceBEq, Int.reduceLT, Int.reduceLE, decide_true, decide_false, Array.toList_empty, List.nil_append, List.append_nil]
  refine sent_Log_Eliciting_1_ev _ _ _ ?_
  simp only [sent_Log_Eliciting_1_g5, sent_Log_Eliciting_1_g6, sent_Log_Eliciting_1]
  simp only [bnd_some, brV_t, brV_f, newE_u, pickE_t, pickE_f, nilV_p, faV_p, ldE_f, ldE_t, rdA_u, stE_p, cells_int, cells_bool, cells_ptr, cells_slice, cells_func, cells_agg, bin_add, bin_sub, bin_mul, bin_eql, bin_neq, bin_lss, bin_leq, bin_gtr, bin_geq, bin_eqlb, bin_neqb, bin_eqlp, bin_eqlp0, bin_neqp, bin_neqp0, bin_eqls, bin_eqls0, un_not, un_neg, len_s, ex_t, cv_i, callV_f, Option.bind_some, Option.map_some, Nat.zero_add, Nat.add_zero, Nat.reduceAdd, Nat.reduceMul, size_newB, size_setB, blk_newB_self, own_newB_self, wrA_b, own_setB_m, blk_setB_m, setB_setB, List.getElem?_toArray, List.getElem?_cons_zero, List.getElem?_cons_succ, List.length_cons, List.length_nil, List.all_cons, List.all_nil, isCell_int, isCell_bool, isCell_ptr, isCell_slice, isCell_func, Bool.and_true, Bool.and_self, and_self, if_true, List.size_toArray, and_true, true_and, Nat.reduceLeDiff, Nat.le_refl, Bool.not_true, Bool.not_false, Bool.true_and, Bool.false_and, Bool.and_false, Int.reduceBNe, Int.reduceBEq, Int.reduceLT, Int.reduceLE, decide_true, decide_false, own_blk h0.log, logC_7]
  exact hR _ e0
theorem Clear_ev {H : Heap} {b rb room : Nat} {top : Int} {L : List Pkt} {R : Value → Heap → Prop} (h : LogOf H b rb room top L)
    (hR : ∀ H', Ext [b] H H' → LogOf H' b rb room top [] → R (.tuple #[]) H') : EvF P N.sent_Log_Clear #[ptr b] H R := by
  obtain ⟨cap, fr, sl, h⟩ := h
  have hroom := h.rep.hroom
  refine sent_Log_Clear_ev _ _ _ ?_
  simp only [sent_Log_Clear_g6, sent_Log_Clear_g7, sent_Log_Clear]
  simp only [bnd_some, brV_t, brV_f, newE_u, pickE_t, pickE_f, nilV_p, faV_p, ldE_f, ldE_t, rdA_u, stE_p, cells_int, cells_bool, cells_ptr, cells_slice, cells_func, cells_agg, bin_add, bin_sub, bin_mul, bin_eql, bin_neq, bin_lss, bin_leq, bin_gtr, bin_geq, bin_eqlb, bin_neqb, bin_eqlp, bin_eqlp0, bin_neqp, bin_neqp0, bin_eqls, bin_eqls0, un_not, un_neg, len_s, ex_t, cv_i, callV_f, Option.bind_some, Option.map_some, Nat.zero_add, Nat.add_zero, Nat.reduceAdd, Nat.reduceMul, size_newB, size_setB, blk_newB_self, own_newB_self, wrA_b, own_setB_m, blk_setB_m, setB_setB, List.getElem?_toArray, List.getElem?_cons_zero, List.getElem?_cons_succ, List.length_cons, List.length_nil, List.all_cons, List.all_nil, isCell_int, isCell_bool, isCell_ptr, isCell_slice, isCell_func, Bool.and_true, Bool.and_self, and_self, if_true, List.size_toArray, and_true, true_and, Nat.reduceLeDiff, Nat.le_refl, Bool.not_true, Bool.not_false, Bool.true_and, Bool.false_and, Bool.and_false, Int.reduceBNe, Int.reduceBEq, Int.reduceLT, Int.reduceLE, decide_true, decide_false]
  refine none_ev h.rep.log (by omega) ?_
  simp only [bnd_some, brV_t, brV_f, newE_u, pickE_t, pickE_f, nilV_p, faV_p, ldE_f, ldE_t, rdA_u, stE_p, cells_int, cells_bool, cells_ptr, cells_slice, cells_func, cells_agg, bin_add, bin_sub, bin_mul, bin_eql, bin_neq, bin_lss, bin_leq, bin_gtr, bin_geq, bin_eqlb, bin_neqb, bin_eqlp, bin_eqlp0, bin_neqp, bin_neqp0, bin_eqls, bin_eqls0, un_not, un_neg, len_s, ex_t, cv_i, callV_f, Option.bind_some, Option.map_some, Nat.zero_add, Nat.add_zero, Nat.reduceAdd, Nat.reduceMul, size_newB, size_setB, blk_newB_self, own_newB_self, wrA_b, own_setB_m, blk_setB_m, setB_setB, List.getElem?_toArray, List.getElem?_cons_zero, List.getElem?_cons_succ, List.length_cons, List.length_nil, List.all_cons, List.all_nil, isCell_int, isCell_bool, isCell_ptr, isCell_slice, isCell_func, Bool.and_true, Bool.and_self, and_self, if_true, List.size_toArray, and_true, true_and, Nat.reduceLeDiff, Nat.le_refl, Bool.not_true, Bool.not_false, Bool.true_and, Bool.false_and, Bool.and_false, Int.reduceBNe, Int.reduceBEq, Int.reduceLT, Int.reduceLE, decide_true, decide_false, h.rep.log, logC_s, logC_w3, logC_w4, logC_w5, logC_w6, logC_w7]
  refine hR _ ((Ext.refl _ _).setB _ _ (Or.inl (by simp))) ⟨cap, 0, [], ?_⟩
  obtain ⟨c, f, hc, hr, hcap, hf⟩ := h.rep.ring
  refine ⟨⟨own_setB_same h.rep.log, h.rep.ne, hroom, by omega, by simp, c, f, ?_, hr, hcap, by simp⟩, by simp [Up], rfl, by simp, h.htop, by simp, by simp⟩
  rw [own_setB_ne (Ne.symm h.rep.ne)]; exact hc
end Go.Hc

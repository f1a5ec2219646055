/- The log: what the functions that write do. -/
import Derived.Test.YtchdnhbkjfdnmaaS06B
set_option linter.unusedSimpArgs false
set_option linter.unusedVariables false
namespace Go.Hc
open Go

theorem live_cons {s : Pkt × Bool} {sl : List (Pkt × Bool)} : live (s :: sl) = if s.2 then s.1 :: live sl else live sl := by
  unfold live; cases h : s.2 <;> simp [h]
theorem live_app {a b : List (Pkt × Bool)} : live (a ++ b) = live a ++ live b := by simp [live]
theorem live_set {n : Int} : ∀ {sl : List (Pkt × Bool)} {i : Nat} (_ : Up sl) (hi : i < sl.length) (_ : sl[i].1.num = n), live (sl.set i (sl[i].1, false)) = (live sl).filter (fun p => p.num != n)
  | [], _, _, hi, _ => by simp at hi
  | s :: sl, 0, hu, _, hn => by
    have hn' : s.1.num = n := hn
    have hk : (live sl).filter (fun p => p.num != n) = live sl := by
      rw [List.filter_eq_self]
      intro p hp
      have := (List.pairwise_cons.1 hu).1 (p, true) (mem_live.1 hp)
      have h2 : p.num ≠ n := by simp only at this; omega
      simpa using h2
    simp only [List.set_cons_zero, List.getElem_cons_zero, live_cons]
    cases hs : s.2 <;> simp [hn', hk]
  | s :: sl, i + 1, hu, hi, hn => by
    have hi' : i < sl.length := by simpa using hi
    have hn' : sl[i].1.num = n := hn
    have ih := live_set (List.pairwise_cons.1 hu).2 hi' hn'
    have h1 := (List.pairwise_cons.1 hu).1 _ (List.getElem_mem hi')
    have h2 : s.1.num ≠ n := by omega
    simp only [List.set_cons_succ, List.getElem_cons_succ, live_cons, ih]
    cases hs : s.2 <;> simp [h2]
theorem sums_filter {n : Int} : ∀ {L : List Pkt} {p : Pkt} (_ : RiseL L) (_ : p ∈ L) (_ : p.num = n),
    flight (L.filter fun q => q.num != n) = (if p.fl then flight L + -1 * p.size else flight L) ∧ elic (L.filter fun q => q.num != n) = (if p.fl && p.el then elic L + -1 else elic L) ∧
      ((L.filter fun q => q.num != n).length : Int) = L.length + -1
  | q :: L, p, hr, hp, hn => by
    rcases List.mem_cons.1 hp with rfl | hp
    · have hk : L.filter (fun q => q.num != n) = L := by
        rw [List.filter_eq_self]
        intro q hq
        have := (List.pairwise_cons.1 hr).1 q hq
        have h2 : q.num ≠ n := by omega
        simpa using h2
      have : (p.num != n) = false := by simp [hn]
      simp only [List.filter_cons, this, hk, flight, elic, List.length_cons]
      refine ⟨?_, ?_, ?_⟩
      · cases p.fl <;> simp <;> omega
      · cases p.fl <;> cases p.el <;> simp <;> omega
      · simp; omega
    · obtain ⟨a, b, c⟩ := sums_filter (List.pairwise_cons.1 hr).2 hp hn
      have := (List.pairwise_cons.1 hr).1 p hp
      have h2 : q.num ≠ n := by omega
      have : (q.num != n) = true := by simpa using h2
      simp only [List.filter_cons, this, if_true, flight, elic, List.length_cons, a, b]
      refine ⟨?_, ?_, ?_⟩
      · cases p.fl <;> simp <;> omega
      · cases p.fl <;> cases p.el <;> simp <;> omega
      · have := c; omega
theorem flight_le : ∀ {L : List Pkt} (_ : ∀ p ∈ L, May p), 0 ≤ flight L ∧ flight L ≤ 65535 * L.length
  | [], _ => by simp [flight]
  | p :: L, h => by
    obtain ⟨a, b⟩ := flight_le (L := L) fun q hq => h q (by simp [hq])
    have := h p (by simp)
    obtain ⟨_, _, _, _, h1, h2⟩ := this
    simp only [flight, List.length_cons]
    cases p.fl <;> simp <;> omega
theorem elic_le : ∀ {L : List Pkt}, 0 ≤ elic L ∧ elic L ≤ L.length
  | [] => by simp [elic]
  | p :: L => by
    obtain ⟨a, b⟩ := elic_le (L := L)
    simp only [elic, List.length_cons]
    cases p.fl <;> cases p.el <;> simp <;> omega
theorem flight_app {L M : List Pkt} : flight (L ++ M) = flight L + flight M := by
  induction L with
  | nil => simp [flight]
  | cons p L ih => simp only [List.cons_append, flight, ih]; omega
theorem elic_app {L M : List Pkt} : elic (L ++ M) = elic L + elic M := by
  induction L with
  | nil => simp [elic]
  | cons p L ih => simp only [List.cons_append, elic, ih]; omega
theorem LogS.mayL {H : Heap} {b rb cap room fr : Nat} {top : Int} {sl : List (Pkt × Bool)} {L : List Pkt} (h : LogS H b rb cap room top fr sl L) : ∀ p ∈ L, May p ∧ p.num ≤ top := by
  intro p hp; rw [← h.liv] at hp; exact h.may _ (mem_live.1 hp)

theorem splice_slot {p : Pkt} {t x : Bool} : splice (slotC (p, t)) 6 [.bool x] = slotC (p, x) := rfl
/-- The log after a slot is emptied. -/
theorem LogR.drop {H : Heap} {b rb cap room fr : Nat} {top ma fl el : Int} {sl : List (Pkt × Bool)} (h : LogR H b rb cap room top fr sl ma fl el) {i : Nat} (hi : i < sl.length) {c : Array Value} (hc : blk H rb = some c) :
    own H rb = some c ∧ (fr + i) % (2 * room) * 7 + 6 < c.size ∧ LogR (setB H rb (splice c ((fr + i) % (2 * room) * 7 + 6) [.bool false])) b rb cap room top fr (sl.set i (sl[i].1, false)) ma fl el := by
  obtain ⟨c', f, hc', hr, hcap, hf⟩ := h.ring
  have : c' = c := by have := own_blk hc'; rw [hc] at this; simpa using this.symm
  subst this
  have h1 := h.hroom
  have hlt : (fr + i) % (2 * room) < cap := Nat.lt_of_lt_of_le (Nat.mod_lt _ (by omega)) hcap
  have hrl := row_lt (sz := 7) hlt
  have hsz := hr.size
  refine ⟨hc', by omega, ?_⟩
  refine ⟨by rw [own_setB_ne h.ne, List.length_set]; exact h.log, h.ne, h.hroom, h.hfr, by rw [List.length_set]; exact h.hlen, _, _, own_setB_same hc', hr.setC (i := (fr + i) % (2 * room)) (o := 6) (l := [.bool false]) hlt (by simp), hcap, fun j hj => ?_⟩
  rw [List.length_set] at hj
  have h3 := h.hlen
  have h4 := h.hfr
  by_cases hij : i = j
  · subst hij; simp only [if_true, hf i hi, List.getElem_set_self]; exact splice_slot (t := sl[i].2)
  · have : (fr + j) % (2 * room) ≠ (fr + i) % (2 * room) := by
      intro e
      have e1 := Nat.mod_lt (fr + i) (show 0 < 2 * room by omega)
      rcases Nat.lt_or_ge (fr + i) (2 * room) with h5 | h5 <;> rcases Nat.lt_or_ge (fr + j) (2 * room) with h6 | h6
      · rw [Nat.mod_eq_of_lt h5, Nat.mod_eq_of_lt h6] at e; omega
      · rw [Nat.mod_eq_of_lt h5, Nat.mod_eq_sub_mod h6, Nat.mod_eq_of_lt (by omega)] at e; omega
      · rw [Nat.mod_eq_of_lt h6, Nat.mod_eq_sub_mod h5, Nat.mod_eq_of_lt (by omega)] at e; omega
      · rw [Nat.mod_eq_sub_mod h5, Nat.mod_eq_sub_mod h6, Nat.mod_eq_of_lt (a := fr + j - 2 * room) (by omega), Nat.mod_eq_of_lt (by omega)] at e; omega
    simp only [this, if_false, List.getElem_set_ne hij]; exact hf j hj

theorem ld_ptr {H : Heap} {b o : Nat} {c : Array Value} {v : Value} (hc : blk H b = some c) (hv : c[o]? = some v) : ldE false 1 (.pointer (some ⟨b, o, none⟩)) H = some v := by
  simp only [ldE_f, hc, Option.bind_some, hv]
theorem st_ptr {H : Heap} {b o : Nat} {c : Array Value} {v : Value} (hc : own H b = some c) (ho : o < c.size) (hv : v.cells = #[v]) (hv' : isCell v = true) : stE 1 (.pointer (some ⟨b, o, none⟩)) v H = some (setB H b (splice c o [v])) := by
  simp only [stE_p, hv, List.size_toArray, List.length_cons, List.length_nil, if_true]
  rw [wrA_u hc (by simp; omega) (by simp [hv'])]
theorem bin_addw {a b : Int} {m : EqM} (h : -9223372036854775808 ≤ a + b ∧ a + b ≤ 9223372036854775807) : binV m .add (iv a) (iv b) = some (iv (a + b)) := by rw [bin_add, wrap_in h]
theorem bin_subw {a b : Int} {m : EqM} (h : -9223372036854775808 ≤ a - b ∧ a - b ≤ 9223372036854775807) : binV m .sub (iv a) (iv b) = some (iv (a - b)) := by rw [bin_sub, wrap_in h]

theorem Drop_ev {H : Heap} {b rb room : Nat} {top : Int} {L : List Pkt} {n : Int} {R : Value → Heap → Prop} (h : LogOf H b rb room top L)
    (hR : ∀ H', Ext [b, rb] H H' → LogOf H' b rb room top (L.filter fun p => p.num != n) → R (opt (L.find? fun p => p.num == n)) H') : EvF P N.sent_Log_Drop #[ptr b, iv n] H R := by
  have hlt := h.lt
  obtain ⟨cap, fr, sl, h⟩ := h
  refine sent_Log_Drop_ev _ _ _ _ ?_
  simp only [sent_Log_Drop_g31, sent_Log_Drop_g32, sent_Log_Drop_g33, sent_Log_Drop_g34, sent_Log_Drop_g35, sent_Log_Drop_g36, sent_Log_Drop_g37, sent_Log_Drop_g39, sent_Log_Drop_g40, sent_Log_Drop_g41, sent_Log_Drop_g42, sent_Log_Drop_s38, sent_Log_Drop_l47, sent_Log_Drop]
  simp only [bnd_some, brV_t, brV_f, newE_u, pickE_t, pickE_f, nilV_p, faV_p, cells_int, cells_bool, cells_ptr, cells_slice, cells_func, cells_agg, bin_eql, bin_neq, bin_lss, bin_leq, bin_gtr, bin_geq, bin_eqlb, bin_neqb, bin_eqlp, bin_eqlp0, bin_neqp, bin_neqp0, bin_eqls, bin_eqls0, un_not, un_neg, len_s, ex_t, cv_i, callV_f, Option.bind_some, Option.map_some, Nat.zero_add, Nat.add_zero, Nat.reduceAdd, Nat.reduceMul, size_newB, size_setB, blk_newB_self, own_newB_self, setB_setB, List.getElem?_toArray, List.getElem?_cons_zero, List.getElem?_cons_succ, List.length_cons, List.length_nil, List.all_cons, List.all_nil, isCell_int, isCell_bool, isCell_ptr, isCell_slice, isCell_func, Bool.and_true, Bool.and_self, and_self, if_true, List.size_toArray, and_true, true_and, Nat.reduceLeDiff, Nat.le_refl, Bool.not_true, Bool.not_false, Bool.true_and, Bool.false_and, Bool.and_false, Int.reduceBNe, Int.reduceBEq, Int.reduceLT, Int.reduceLE, decide_true, decide_false, pkt0_C]
  have e0 : Ext [] H (newB H 30 (pktC pkt0)) := (Ext.refl _ _).newB _ _
  have h0 := h.ext e0 (by simp) (by simp)
  have hroom := h.rep.hroom
  refine slot_ev h0.rep h0.up (fun H' he hn => ?_) (fun H' i hi o c he hn ht hc hg ho => ?_)
  · simp only [bnd_some, brV_t, brV_f, newE_u, pickE_t, pickE_f, nilV_p, faV_p, cells_int, cells_bool, cells_ptr, cells_slice, cells_func, cells_agg, bin_eql, bin_neq, bin_lss, bin_leq, bin_gtr, bin_geq, bin_eqlb, bin_neqb, bin_eqlp, bin_eqlp0, bin_neqp, bin_neqp0, bin_eqls, bin_eqls0, un_not, un_neg, len_s, ex_t, cv_i, callV_f, Option.bind_some, Option.map_some, Nat.zero_add, Nat.add_zero, Nat.reduceAdd, Nat.reduceMul, size_newB, size_setB, blk_newB_self, own_newB_self, setB_setB, List.getElem?_toArray, List.getElem?_cons_zero, List.getElem?_cons_succ, List.length_cons, List.length_nil, List.all_cons, List.all_nil, isCell_int, isCell_bool, isCell_ptr, isCell_slice, isCell_func, Bool.and_true, Bool.and_self, and_self, if_true, List.size_toArray, and_true, true_and, Nat.reduceLeDiff, Nat.le_refl, Bool.not_true, Bool.not_false, Bool.true_and, Bool.false_and, Bool.and_false, Int.reduceBNe, Int.reduceBEq, Int.reduceLT, Int.reduceLE, decide_true, decide_false, Option.isNone_none, ld_pkt he, st_pkt he, st_pkt' he]
    have hfn := find_live_none hn
    rw [h.liv] at hfn
    have hk : L.filter (fun p => p.num != n) = L := by
      rw [List.filter_eq_self]; intro p hp
      have := List.find?_eq_none.1 hfn p hp
      simpa using this
    have := hR _ ((ext_pkt (q := pkt0) he).mono (by simp)) (by
      rw [hk]; exact ⟨cap, fr, sl, h.ext (ext_pkt (q := pkt0) he) (by simp) (by simp)⟩)
    rw [hfn] at this; exact this
  · have h' := h0.ext he (by simp) (by simp)
    obtain ⟨hcw, hsz, hrep⟩ := h'.rep.drop hi hc
    rw [← ho] at hsz hrep
    have hst : stE 1 (.pointer (some ⟨rb, o + 6, none⟩)) (.bool false) H' = some (setB H' rb (splice c (o + 6) [.bool false])) := st_ptr hcw hsz rfl rfl
    have hmx := h'.may _ (List.getElem_mem hi)
    have hfl := flight_le (L := L) fun p hp => (h.mayL p hp).1
    have hel := elic_le (L := L)
    have hfew := h.few
    -- the packet is still to be read
    have hg2 : ldE true 6 (.pointer (some ⟨rb, o, none⟩)) (setB H' rb (splice c (o + 6) [.bool false])) = some (pv sl[i].1) := by
      obtain ⟨c2, f2, hc2, hr2, hcap2, hf2⟩ := hrep.ring
      have hlt2 : (fr + i) % (2 * room) < cap := Nat.lt_of_lt_of_le (Nat.mod_lt _ (by omega)) hcap2
      have := hr2.part (o := 0) (m := 6) hlt2 (by omega)
      rw [hf2 i (by rw [List.length_set]; exact hi), List.getElem_set_self, Nat.add_zero, ← ho] at this
      simp only [ldE_t, rdA_u, own_blk hc2, Option.bind_some, this, Option.map_some]; rfl
    simp only [bnd_some, brV_t, brV_f, newE_u, pickE_t, pickE_f, nilV_p, faV_p, cells_int, cells_bool, cells_ptr, cells_slice, cells_func, cells_agg, bin_eql, bin_neq, bin_lss, bin_leq, bin_gtr, bin_geq, bin_eqlb, bin_neqb, bin_eqlp, bin_eqlp0, bin_neqp, bin_neqp0, bin_eqls, bin_eqls0, un_not, un_neg, len_s, ex_t, cv_i, callV_f, Option.bind_some, Option.map_some, Nat.zero_add, Nat.add_zero, Nat.reduceAdd, Nat.reduceMul, size_newB, size_setB, blk_newB_self, own_newB_self, setB_setB, List.getElem?_toArray, List.getElem?_cons_zero, List.getElem?_cons_succ, List.length_cons, List.length_nil, List.all_cons, List.all_nil, isCell_int, isCell_bool, isCell_ptr, isCell_slice, isCell_func, Bool.and_true, Bool.and_self, and_self, if_true, List.size_toArray, and_true, true_and, Nat.reduceLeDiff, Nat.le_refl, Bool.not_true, Bool.not_false, Bool.true_and, Bool.false_and, Bool.and_false, Int.reduceBNe, Int.reduceBEq, Int.reduceLT, Int.reduceLE, decide_true, decide_false, hst, hg2]
    have hLen : (L.length : Int) ≤ 256 := by omega
    refine less_ev hrep.log (by omega) (by omega) (by omega) (by have := hmx.1; unfold May at this; omega) fun H2 he2 ho2 hx2 => ?_
    have hmem : sl[i].1 ∈ L := by rw [← h.liv]; exact mem_live.2 (by rw [← ht]; exact List.getElem_mem hi)
    have hrise : RiseL L := by rw [← h.liv]; exact h.up.rise
    obtain ⟨s1, s2, s3⟩ := sums_filter hrise hmem hn
    have hrep2 : LogR H2 b rb cap room top fr (sl.set i (sl[i].1, false)) (L.filter fun p => p.num != n).length (flight (L.filter fun p => p.num != n)) (elic (L.filter fun p => p.num != n)) := by
      refine ⟨by rw [s1, s2, s3]; exact ho2, hrep.ne, hrep.hroom, hrep.hfr, hrep.hlen, ?_⟩
      obtain ⟨c2, f2, hc2, hr2, hcap2, hf2⟩ := hrep.ring
      exact ⟨c2, f2, by rw [hx2 rb (Ne.symm hrep.ne) (own_lt hc2)]; exact hc2, hr2, hcap2, hf2⟩
    have hls : H.size ≠ rb := by omega
    have hlb : H.size ≠ b := by omega
    -- the local packet
    have hloc : own H2 H.size = some (pktC pkt0) := by
      have h1 : own H' H.size = some (pktC pkt0) := he.own own_newB_self (by simp)
      rw [hx2 _ hlb (by rw [size_setB]; exact own_lt h1), own_setB_ne hls]; exact h1
    have hE2 : Ext [b, rb] H H2 := (((e0.mono (by simp)).trans (he.mono (by simp))).setB rb _ (Or.inl (by simp))).trans (he2.mono (by simp))
    have hg3 : ldE true 6 (.pointer (some ⟨rb, o, none⟩)) H2 = some (pv sl[i].1) := by
      obtain ⟨c2, f2, hc2, hr2, hcap2, hf2⟩ := hrep2.ring
      have hlt2 : (fr + i) % (2 * room) < cap := Nat.lt_of_lt_of_le (Nat.mod_lt _ (by omega)) hcap2
      have := hr2.part (o := 0) (m := 6) hlt2 (by omega)
      rw [hf2 i (by rw [List.length_set]; exact hi), List.getElem_set_self, Nat.add_zero, ← ho] at this
      simp only [ldE_t, rdA_u, own_blk hc2, Option.bind_some, this, Option.map_some]; rfl
    have hst3 : stE 6 (ptr H.size) (pv sl[i].1) H2 = some (setB H2 H.size (pktC sl[i].1)) := by
      simp only [stE_p, cells_agg, pktC_s, if_true]
      rw [wrA_u hloc (by rw [pktC_l]; exact Nat.le_refl _) pktC_a, splice_pkt]
    simp only [bnd_some, brV_t, brV_f, newE_u, pickE_t, pickE_f, nilV_p, faV_p, cells_int, cells_bool, cells_ptr, cells_slice, cells_func, cells_agg, bin_eql, bin_neq, bin_lss, bin_leq, bin_gtr, bin_geq, bin_eqlb, bin_neqb, bin_eqlp, bin_eqlp0, bin_neqp, bin_neqp0, bin_eqls, bin_eqls0, un_not, un_neg, len_s, ex_t, cv_i, callV_f, Option.bind_some, Option.map_some, Nat.zero_add, Nat.add_zero, Nat.reduceAdd, Nat.reduceMul, size_newB, size_setB, blk_newB_self, own_newB_self, setB_setB, List.getElem?_toArray, List.getElem?_cons_zero, List.getElem?_cons_succ, List.length_cons, List.length_nil, List.all_cons, List.all_nil, isCell_int, isCell_bool, isCell_ptr, isCell_slice, isCell_func, Bool.and_true, Bool.and_self, and_self, if_true, List.size_toArray, and_true, true_and, Nat.reduceLeDiff, Nat.le_refl, Bool.not_true, Bool.not_false, Bool.true_and, Bool.false_and, Bool.and_false, Int.reduceBNe, Int.reduceBEq, Int.reduceLT, Int.reduceLE, decide_true, decide_false, hg3, hst3]
    have hfind : L.find? (fun p => p.num == n) = some sl[i].1 := by rw [← h.liv]; exact find_live_some h.up hi hn ht
    have hliv2 : live (sl.set i (sl[i].1, false)) = L.filter fun p => p.num != n := by rw [live_set h.up hi hn, h.liv]
    have hup2 : Up (sl.set i (sl[i].1, false)) := by
      refine List.pairwise_iff_getElem.2 fun j k hj hk hjk => ?_
      rw [List.length_set] at hj hk
      have := h.up.lt hj hk hjk
      simp only [List.getElem_set]
      split <;> split <;> simp_all
    have hmay2 : ∀ s ∈ sl.set i (sl[i].1, false), May s.1 ∧ s.1.num ≤ top := by
      intro s hs
      rcases List.mem_or_eq_of_mem_set hs with h1 | h1
      · exact h.may s h1
      · subst h1; exact hmx
    generalize hL' : (L.filter fun p => p.num != n) = L' at *
    have hfew2 : L'.length ≤ room := by rw [← hL']; exact Nat.le_trans (List.length_filter_le _ _) h.few
    -- the loop
    refine ⟨fun H3 => Ext [b, rb] H H3 ∧ own H3 H.size = some (pktC sl[i].1) ∧ ∃ fr sl, LogR H3 b rb cap room top fr sl L'.length (flight L') (elic L') ∧ Up sl ∧ live sl = L' ∧ (∀ s ∈ sl, May s.1 ∧ s.1.num ≤ top),
      fun H3 => match blk H3 b with | some c => (match c[4]? with | some (Value.int _ n) => n.toNat | _ => 0) | none => 0, ⟨hE2.setB _ _ (Or.inr (Nat.le_refl _)), own_setB_same hloc, fr, _, hrep2.ext ((Ext.refl [H.size] _).setB _ _ (Or.inl (by simp))) (by simp; omega) (by simp; omega), hup2, hliv2, hmay2⟩, ?_⟩
    clear hrep2 hup2 hliv2 hmay2 hst3 hg3 hloc hE2 hx2 he2 hg2 hst hrep
    rintro H3 ⟨hE3, hloc, fr', sl', hr, hu, hl, hm⟩
    have hs3 := hr.hlen
    have hb4 : ldE false 1 (.pointer (some ⟨b, 4, none⟩)) H3 = some (iv sl'.length) := ld_ptr (own_blk hr.log) logC_4
    have hb3 : ldE false 1 (.pointer (some ⟨b, 3, none⟩)) H3 = some (iv fr') := ld_ptr (own_blk hr.log) logC_3
    have hb2 : ldE false 1 (.pointer (some ⟨b, 2, none⟩)) H3 = some (.slice (some ⟨rb, 0, none⟩) (2 * room) cap) := ld_ptr (own_blk hr.log) logC_2
    have hfin : (∀ s ∈ sl'.head?, s.2 = true) → bnd (ldE true 6 (ptr H.size) H3) fun v60 => bnd (stE 6 (ptr H.size) v60 H3) fun H1 => bnd (ldE true 6 (ptr H.size) H1) fun r0 => R (.tuple #[r0, .bool true]) H1 := fun hhead => by
      have l1 : ldE true 6 (ptr H.size) H3 = some (pv sl[i].1) := by simp only [ldE_t, rdA_u, own_blk hloc, Option.bind_some, pktC_g, Option.map_some]
      have l2 : stE 6 (ptr H.size) (pv sl[i].1) H3 = some H3 := by
        simp only [stE_p, cells_agg, pktC_s, if_true]
        rw [wrA_u hloc (by rw [pktC_l]; exact Nat.le_refl _) pktC_a, splice_pkt, setB_self (own_blk hloc)]
      rw [l1, bnd_some, l2, bnd_some, l1, bnd_some]
      have := hR H3 hE3 ⟨cap, fr', sl', hr, hu, hl, hm, h.htop, hfew2, hhead⟩
      rw [hfind] at this; exact this
    simp only [bnd_some, brV_t, brV_f, newE_u, pickE_t, pickE_f, nilV_p, faV_p, cells_int, cells_bool, cells_ptr, cells_slice, cells_func, cells_agg, bin_eql, bin_neq, bin_lss, bin_leq, bin_gtr, bin_geq, bin_eqlb, bin_neqb, bin_eqlp, bin_eqlp0, bin_neqp, bin_neqp0, bin_eqls, bin_eqls0, un_not, un_neg, len_s, ex_t, cv_i, callV_f, Option.bind_some, Option.map_some, Nat.zero_add, Nat.add_zero, Nat.reduceAdd, Nat.reduceMul, size_newB, size_setB, blk_newB_self, own_newB_self, setB_setB, List.getElem?_toArray, List.getElem?_cons_zero, List.getElem?_cons_succ, List.length_cons, List.length_nil, List.all_cons, List.all_nil, isCell_int, isCell_bool, isCell_ptr, isCell_slice, isCell_func, Bool.and_true, Bool.and_self, and_self, if_true, List.size_toArray, and_true, true_and, Nat.reduceLeDiff, Nat.le_refl, Bool.not_true, Bool.not_false, Bool.true_and, Bool.false_and, Bool.and_false, Int.reduceBNe, Int.reduceBEq, Int.reduceLT, Int.reduceLE, decide_true, decide_false, hb4]
    refine brV_d (fun hpos => ?_) (fun hpos => ?_)
    · have hpos' : 0 < sl'.length := by omega
      have hat := fun R => hr.at (i := 0) hpos' (R := R)
      refine hat _ fun o' c' hc' _ h6 _ _ => ?_
      have hl6 : ldE false 1 (.pointer (some ⟨rb, o' + 6, none⟩)) H3 = some (.bool sl'[0].2) := ld_ptr hc' h6
      simp only [bnd_some, brV_t, brV_f, newE_u, pickE_t, pickE_f, nilV_p, faV_p, cells_int, cells_bool, cells_ptr, cells_slice, cells_func, cells_agg, bin_eql, bin_neq, bin_lss, bin_leq, bin_gtr, bin_geq, bin_eqlb, bin_neqb, bin_eqlp, bin_eqlp0, bin_neqp, bin_neqp0, bin_eqls, bin_eqls0, un_not, un_neg, len_s, ex_t, cv_i, callV_f, Option.bind_some, Option.map_some, Nat.zero_add, Nat.add_zero, Nat.reduceAdd, Nat.reduceMul, size_newB, size_setB, blk_newB_self, own_newB_self, setB_setB, List.getElem?_toArray, List.getElem?_cons_zero, List.getElem?_cons_succ, List.length_cons, List.length_nil, List.all_cons, List.all_nil, isCell_int, isCell_bool, isCell_ptr, isCell_slice, isCell_func, Bool.and_true, Bool.and_self, and_self, if_true, List.size_toArray, and_true, true_and, Nat.reduceLeDiff, Nat.le_refl, Bool.not_true, Bool.not_false, Bool.true_and, Bool.false_and, Bool.and_false, Int.reduceBNe, Int.reduceBEq, Int.reduceLT, Int.reduceLE, decide_true, decide_false, hl6]
      refine brV_i (fun hth => ?_) (fun hth => ?_)
      · -- the head goes
        have hfr' := hr.hfr
        have hw1 : binV .int .add (iv fr') (.int .i64 1) = some (iv (fr' + 1)) := bin_addw (by omega)
        have hw2 : binV .int .rem (iv (fr' + 1)) (iv ((2 * room : Nat) : Int)) = some (iv (((fr' + 1) % (2 * room) : Nat) : Int)) := by
          rw [bin_rem (by omega), Int.tmod_eq_emod_of_nonneg (by omega)]; simp
        have hw3 : binV .int .sub (iv sl'.length) (.int .i64 1) = some (iv ((sl'.tail.length : Nat) : Int)) := by
          rw [bin_subw (by omega), List.length_tail]; congr 2; omega
        have st3 : stE 1 (.pointer (some ⟨b, 3, none⟩)) (iv (((fr' + 1) % (2 * room) : Nat) : Int)) H3 = some (setB H3 b (logC room top rb (2 * room) cap (((fr' + 1) % (2 * room) : Nat) : Int) sl'.length L'.length (flight L') (elic L'))) := by
          rw [st_ptr hr.log (by rw [logC_s]; omega) rfl rfl, logC_w3]
        have hlog2 := own_setB_same (c' := logC room top rb (2 * room) cap (((fr' + 1) % (2 * room) : Nat) : Int) sl'.length L'.length (flight L') (elic L')) hr.log
        have st4 : stE 1 (.pointer (some ⟨b, 4, none⟩)) (iv ((sl'.tail.length : Nat) : Int)) (setB H3 b (logC room top rb (2 * room) cap (((fr' + 1) % (2 * room) : Nat) : Int) sl'.length L'.length (flight L') (elic L'))) =
            some (setB H3 b (logC room top rb (2 * room) cap (((fr' + 1) % (2 * room) : Nat) : Int) (sl'.tail.length : Nat) L'.length (flight L') (elic L'))) := by
          rw [st_ptr hlog2 (by rw [logC_s]; omega) rfl rfl, logC_w4, setB_setB]
        have l4 : ldE false 1 (.pointer (some ⟨b, 4, none⟩)) (setB H3 b (logC room top rb (2 * room) cap (((fr' + 1) % (2 * room) : Nat) : Int) sl'.length L'.length (flight L') (elic L'))) = some (iv sl'.length) := ld_ptr (own_blk hlog2) logC_4
        simp only [bnd_some, brV_t, brV_f, newE_u, pickE_t, pickE_f, nilV_p, faV_p, cells_int, cells_bool, cells_ptr, cells_slice, cells_func, cells_agg, bin_eql, bin_neq, bin_lss, bin_leq, bin_gtr, bin_geq, bin_eqlb, bin_neqb, bin_eqlp, bin_eqlp0, bin_neqp, bin_neqp0, bin_eqls, bin_eqls0, un_not, un_neg, len_s, ex_t, cv_i, callV_f, Option.bind_some, Option.map_some, Nat.zero_add, Nat.add_zero, Nat.reduceAdd, Nat.reduceMul, size_newB, size_setB, blk_newB_self, own_newB_self, setB_setB, List.getElem?_toArray, List.getElem?_cons_zero, List.getElem?_cons_succ, List.length_cons, List.length_nil, List.all_cons, List.all_nil, isCell_int, isCell_bool, isCell_ptr, isCell_slice, isCell_func, Bool.and_true, Bool.and_self, and_self, if_true, List.size_toArray, and_true, true_and, Nat.reduceLeDiff, Nat.le_refl, Bool.not_true, Bool.not_false, Bool.true_and, Bool.false_and, Bool.and_false, Int.reduceBNe, Int.reduceBEq, Int.reduceLT, Int.reduceLE, decide_true, decide_false, hb3, hb2, hw1, hw2, st3, l4, hw3, st4]
        refine ⟨⟨hE3.setB _ _ (Or.inl (by simp)), by rw [own_setB_ne (by omega)]; exact hloc, (fr' + 1) % (2 * room), sl'.tail, ?_, List.Pairwise.sublist (List.tail_sublist _) hu, ?_, fun s hs => hm s (List.mem_of_mem_tail hs)⟩, ?_⟩
        · obtain ⟨c2, f2, hc2, hr2, hcap2, hf2⟩ := hr.ring
          refine ⟨own_setB_same hr.log, hr.ne, hr.hroom, Nat.mod_lt _ (by omega), by rw [List.length_tail]; omega, c2, f2, by rw [own_setB_ne (Ne.symm hr.ne)]; exact hc2, hr2, hcap2, fun j hj => ?_⟩
          rw [List.length_tail] at hj
          have := hf2 (j + 1) (by omega)
          rw [Nat.mod_add_mod, List.getElem_tail, ← this]; congr 1; congr 1; omega
        · cases sl' with
          | nil => simp at hpos'
          | cons s sl' =>
            have : s.2 = false := by simpa using hth
            rw [live_cons, this] at hl; exact hl
        · simp only [blk_setB_m, own_blk hr.log, Option.map_some, logC_4, List.length_tail, Int.toNat_natCast]; omega
      · refine hfin fun s hs => ?_
        cases sl' with
        | nil => simp at hpos'
        | cons s' sl' => simp at hs; subst hs; simpa using hth
    · refine hfin fun s hs => ?_
      have : sl' = [] := List.length_eq_zero_iff.1 (by omega)
      subst this; simp at hs
end Go.Hc

/- The log, as one of the things that lie apart; the chapter's example. -/
import Derived.Test.YtchdnhbkjfdnmaaHcN
import Derived.Test.YtchdnhbkjfdnmaaS06F
set_option linter.unusedSimpArgs false
set_option linter.unusedVariables false
namespace Go.Hc
open Go

theorem LogOf.same {H H' : Heap} {b rb room : Nat} {top : Int} {L : List Pkt} (h : LogOf H b rb room top L) (h1 : H'.arr[b]? = H.arr[b]?) (h2 : H'.arr[rb]? = H.arr[rb]?) : LogOf H' b rb room top L := by
  obtain ⟨cap, fr, sl, h⟩ := h
  obtain ⟨c, f, hc, hr, hcap, hf⟩ := h.rep.ring
  exact ⟨cap, fr, sl, ⟨own_same h.rep.log h1, h.rep.ne, h.rep.hroom, h.rep.hfr, h.rep.hlen, c, f, own_same hc h2, hr, hcap, hf⟩, h.up, h.liv, h.may, h.htop, h.few, h.head⟩
def logA (b room : Nat) (top : Int) (L : List Pkt) : Asr where
  holds H T := ∃ rb, T = [b, rb] ∧ LogOf H b rb room top L
  stable := fun ⟨rb, a, h⟩ e => by subst a; exact ⟨rb, rfl, h.same (e _ (by simp)) (e _ (by simp))⟩
  lt := fun ⟨rb, a, h⟩ y hy => by
    subst a; have := h.lt
    simp only [List.mem_cons, List.not_mem_nil, or_false] at hy
    rcases hy with rfl | rfl
    · exact this.1
    · exact this.2
section
variable {H0 H : Heap} {Qs : List Asr} {b room : Nat} {top : Int} {L : List Pkt} {R : Value → Heap → Prop}
theorem New_sep {r : Int} (h : Sep H0 H Qs) (hbad : ¬ (1 ≤ r ∧ r ≤ 256) → R (.tuple #[.pointer none, iv 2]) H)
    (hok : ∀ (room b : Nat) H', r = room → 1 ≤ room → room ≤ 256 → Sep H0 H' (logA b room (-1) [] :: Qs) → R (.tuple #[ptr b, iv 0]) H') : EvF P N.sent_New #[iv r] H R :=
  New_ev hbad fun room hr h1 h2 H' he hl => hok room _ H' hr h1 h2 (h.new he (T := [H.size + 1, H.size]) ⟨H.size, rfl, hl⟩ (by simp))
theorem Put_sep {p : Pkt} (h : Sep H0 H (logA b room top L :: Qs))
    (hR : ∀ H', Sep H0 H' (logA b room (if putE room top L p = 0 then p.num else top) (if putE room top L p = 0 then L ++ [p] else L) :: Qs) → R (iv (putE room top L p)) H') :
    EvF P N.sent_Log_Put #[ptr b, pv p] H R := by
  obtain ⟨T, ⟨rb, rfl, hl⟩, hk⟩ := h.get
  refine Put_ev hl fun H' rb' he hrb hl' => hR H' (hk (logA _ _ _ _) H' [b, rb'] he ⟨rb', rfl, hl'⟩ fun x hx => ?_)
  simp only [List.mem_cons, List.not_mem_nil, or_false] at hx ⊢
  omega
theorem Drop_sep {n : Int} (h : Sep H0 H (logA b room top L :: Qs))
    (hR : ∀ H', Sep H0 H' (logA b room top (L.filter fun p => p.num != n) :: Qs) → R (opt (L.find? fun p => p.num == n)) H') : EvF P N.sent_Log_Drop #[ptr b, iv n] H R := by
  obtain ⟨T, ⟨rb, rfl, hl⟩, hk⟩ := h.get
  exact Drop_ev hl fun H' he hl' => hR H' (hk (logA _ _ _ _) H' [b, rb] he ⟨rb, rfl, hl'⟩ fun x hx => Or.inl hx)
theorem Clear_sep (h : Sep H0 H (logA b room top L :: Qs))
    (hR : ∀ H', Sep H0 H' (logA b room top [] :: Qs) → R (.tuple #[]) H') : EvF P N.sent_Log_Clear #[ptr b] H R := by
  obtain ⟨T, ⟨rb, rfl, hl⟩, hk⟩ := h.get
  refine Clear_ev hl fun H' he hl' => hR H' (hk (logA _ _ _ _) H' [b, rb] (he.mono fun x hx => Or.inl ?_) ⟨rb, rfl, hl'⟩ fun x hx => Or.inl hx)
  simp at hx; simp [hx]
theorem Get_sep {n : Int} (h : Sep H0 H (logA b room top L :: Qs))
    (hR : ∀ H', Sep H0 H' (logA b room top L :: Qs) → R (opt (L.find? fun p => p.num == n)) H') : EvF P N.sent_Log_Get #[ptr b, iv n] H R := by
  obtain ⟨T, ⟨rb, rfl, hl⟩, _⟩ := h.get
  exact Get_ev hl fun H' he => hR H' (h.ext he)
theorem Oldest_sep (h : Sep H0 H (logA b room top L :: Qs))
    (hR : ∀ H', Sep H0 H' (logA b room top L :: Qs) → R (opt L.head?) H') : EvF P N.sent_Log_Oldest #[ptr b] H R := by
  obtain ⟨T, ⟨rb, rfl, hl⟩, _⟩ := h.get
  exact Oldest_ev hl fun H' he => hR H' (h.ext he)
theorem Last_sep (h : Sep H0 H (logA b room top L :: Qs)) (hR : R (iv top) H) : EvF P N.sent_Log_Last #[ptr b] H R := by
  obtain ⟨T, ⟨rb, rfl, hl⟩, _⟩ := h.get
  exact Last_ev hl hR
theorem Len_sep (h : Sep H0 H (logA b room top L :: Qs))
    (hR : ∀ H', Sep H0 H' (logA b room top L :: Qs) → R (iv L.length) H') : EvF P N.sent_Log_Len #[ptr b] H R := by
  obtain ⟨T, ⟨rb, rfl, hl⟩, _⟩ := h.get
  exact Len_ev hl fun H' he => hR H' (h.ext he)
theorem Flight_sep (h : Sep H0 H (logA b room top L :: Qs))
    (hR : ∀ H', Sep H0 H' (logA b room top L :: Qs) → R (iv (flight L)) H') : EvF P N.sent_Log_Flight #[ptr b] H R := by
  obtain ⟨T, ⟨rb, rfl, hl⟩, _⟩ := h.get
  exact Flight_ev hl fun H' he => hR H' (h.ext he)
theorem Eliciting_sep (h : Sep H0 H (logA b room top L :: Qs))
    (hR : ∀ H', Sep H0 H' (logA b room top L :: Qs) → R (iv (elic L)) H') : EvF P N.sent_Log_Eliciting #[ptr b] H R := by
  obtain ⟨T, ⟨rb, rfl, hl⟩, _⟩ := h.get
  exact Eliciting_ev hl fun H' he => hR H' (h.ext he)
theorem Between_sep {lo hi : Int} (h : Sep H0 H (logA b room top L :: Qs))
    (hR : ∀ H' v, Sep H0 H' (lstA pktE v (within lo hi L) :: logA b room top L :: Qs) → R v H') : EvF P N.sent_Log_Between #[ptr b, iv lo, iv hi] H R := by
  obtain ⟨T, ⟨rb, rfl, hl⟩, _⟩ := h.get
  exact Between_ev hl fun H' v S he ho hs => hR H' v (h.new he (Q := lstA pktE v _) ho hs)
theorem All_sep (h : Sep H0 H (logA b room top L :: Qs))
    (hR : ∀ H' v, Sep H0 H' (lstA pktE v L :: logA b room top L :: Qs) → R v H') : EvF P N.sent_Log_All #[ptr b] H R := by
  obtain ⟨T, ⟨rb, rfl, hl⟩, _⟩ := h.get
  exact All_ev hl fun H' v S he ho hs => hR H' v (h.new he (Q := lstA pktE v _) ho hs)
theorem Copy_sep (h : Sep H0 H (logA b room top L :: Qs))
    (hR : ∀ H' b', Sep H0 H' (logA b' room top L :: logA b room top L :: Qs) → R (ptr b') H') : EvF P N.sent_Log_Copy #[ptr b] H R := by
  obtain ⟨T, ⟨rb, rfl, hl⟩, _⟩ := h.get
  exact Copy_ev hl fun H' b' rb' he h1 h2 hl' => hR H' b' (h.new he (Q := logA b' _ _ _) (T := [b', rb']) ⟨rb', rfl, hl'⟩ (by simp [h1, h2]))
end

def oneP (n : Int) : Pkt := ⟨n, 0, 100, true, true, false⟩
theorem one_ev {H : Heap} {n : Int} {R : Value → Heap → Prop} (hR : ∀ H', Ext [] H H' → R (pv (oneP n)) H') : EvF P N.sounderlaw06_one #[iv n] H R := by
  refine sounderlaw06_one_ev _ _ _ ?_
  simp only [sounderlaw06_one_g5, sounderlaw06_one_g6, sounderlaw06_one]
  simp only [bnd_some, brV_t, brV_f, newE_u, pickE_t, pickE_f, nilV_p, faV_p, cells_int, cells_bool, cells_ptr, cells_slice, cells_func, cells_agg, bin_eql, bin_neq, bin_lss, bin_leq, bin_gtr, bin_geq, bin_eqlb, bin_neqb, bin_eqlp, bin_eqlp0, bin_neqp, bin_neqp0, bin_eqls, bin_eqls0, un_not, un_neg, len_s, ex_t, cv_i, callV_f, Option.bind_some, Option.map_some, Nat.zero_add, Nat.add_zero, Nat.reduceAdd, Nat.reduceMul, size_newB, size_setB, blk_newB_self, own_newB_self, setB_setB, List.getElem?_toArray, List.getElem?_cons_zero, List.getElem?_cons_succ, List.length_cons, List.length_nil, List.all_cons, List.all_nil, isCell_int, isCell_bool, isCell_ptr, isCell_slice, isCell_func, Bool.and_true, Bool.and_self, and_self, if_true, List.size_toArray, and_true, true_and, Nat.reduceLeDiff, Nat.le_refl, Bool.not_true, Bool.not_false, Bool.true_and, Bool.false_and, Bool.and_false, Int.reduceBNe, Int.reduceBEq, Int.reduceLT, Int.reduceLE, decide_true, decide_false, pkt0_C]
  have hb : buildV (pktC pkt0) (places [(0, 1), (1, 1), (2, 1), (3, 1), (4, 1), (5, 1)]) [(0, iv n), (2, (.int .i64 100)), (3, (.bool true)), (4, (.bool true))] = some (pv (oneP n)) := rfl
  have er := Ext.refl [] (newB H 30 (pktC pkt0))
  simp only [bnd_some, brV_t, brV_f, newE_u, pickE_t, pickE_f, nilV_p, faV_p, cells_int, cells_bool, cells_ptr, cells_slice, cells_func, cells_agg, bin_eql, bin_neq, bin_lss, bin_leq, bin_gtr, bin_geq, bin_eqlb, bin_neqb, bin_eqlp, bin_eqlp0, bin_neqp, bin_neqp0, bin_eqls, bin_eqls0, un_not, un_neg, len_s, ex_t, cv_i, callV_f, Option.bind_some, Option.map_some, Nat.zero_add, Nat.add_zero, Nat.reduceAdd, Nat.reduceMul, size_newB, size_setB, blk_newB_self, own_newB_self, setB_setB, List.getElem?_toArray, List.getElem?_cons_zero, List.getElem?_cons_succ, List.length_cons, List.length_nil, List.all_cons, List.all_nil, isCell_int, isCell_bool, isCell_ptr, isCell_slice, isCell_func, Bool.and_true, Bool.and_self, and_self, if_true, List.size_toArray, and_true, true_and, Nat.reduceLeDiff, Nat.le_refl, Bool.not_true, Bool.not_false, Bool.true_and, Bool.false_and, Bool.and_false, Int.reduceBNe, Int.reduceBEq, Int.reduceLT, Int.reduceLE, decide_true, decide_false, hb, st_pkt er, st_pkt' er]
  exact hR _ (ext_pkt er)
theorem one_sep {H0 H : Heap} {Qs : List Asr} {n : Int} {R : Value → Heap → Prop} (h : Sep H0 H Qs) (hR : ∀ H', Sep H0 H' Qs → R (pv (oneP n)) H') : EvF P N.sounderlaw06_one #[iv n] H R :=
  one_ev fun H' he => hR H' (h.ext he)
def bring (i n : Int) : Int := i % n
theorem Bring_ev {H : Heap} {i n : Int} {R : Value → Heap → Prop} (_ : -9223372036854775808 ≤ i ∧ i ≤ 9223372036854775807) (hn : 0 < n ∧ n ≤ 9223372036854775807) (hR : R (iv (bring i n)) H) : EvF P N.sounderref00_Bring #[iv i, iv n] H R := by
  refine sounderref00_Bring_ev _ _ _ _ ?_
  simp only [sounderref00_Bring_g12, sounderref00_Bring_g13, sounderref00_Bring_g15, sounderref00_Bring_s14, sounderref00_Bring_g17, sounderref00_Bring_g18, sounderref00_Bring]
  simp only [bnd_some, brV_t, brV_f, newE_u, pickE_t, pickE_f, nilV_p, faV_p, ldE_f, ldE_t, rdA_u, stE_p, cells_int, cells_bool, cells_ptr, cells_slice, cells_func, cells_agg, bin_add, bin_sub, bin_mul, bin_eql, bin_neq, bin_lss, bin_leq, bin_gtr, bin_geq, bin_eqlb, bin_neqb, bin_eqlp, bin_eqlp0, bin_neqp, bin_neqp0, bin_eqls, bin_eqls0, un_not, un_neg, len_s, ex_t, cv_i, callV_f, Option.bind_some, Option.map_some, Nat.zero_add, Nat.add_zero, Nat.reduceAdd, Nat.reduceMul, size_newB, size_setB, blk_newB_self, own_newB_self, wrA_b, own_setB_m, blk_setB_m, setB_setB, List.getElem?_toArray, List.getElem?_cons_zero, List.getElem?_cons_succ, List.length_cons, List.length_nil, List.all_cons, List.all_nil, isCell_int, isCell_bool, isCell_ptr, isCell_slice, isCell_func, Bool.and_true, Bool.and_self, and_self, if_true, List.size_toArray, and_true, true_and, Nat.reduceLeDiff, Nat.le_refl, Bool.not_true, Bool.not_false, Bool.true_and, Bool.false_and, Bool.and_false, Int.reduceBNe, Int.reduceBEq, Int.reduceLT, Int.reduceLE, decide_true, decide_false, bin_rem (show n ≠ 0 by omega)]
  have h1 := Int.emod_nonneg i (b := n) (by omega)
  have h2 := Int.emod_lt_of_pos i hn.1
  have h3 : i.tmod n = if 0 ≤ i ∨ n ∣ i then i % n else i % n - n := by
    rw [Int.tmod_eq_emod]; split
    · omega
    · rw [Int.natAbs_of_nonneg (by omega)]
  refine brV_d (fun h => ?_) (fun h => ?_)
  · have e : i.tmod n = i % n - n := by
      by_cases c : 0 ≤ i ∨ n ∣ i
      · rw [if_pos c] at h3; omega
      · rw [if_neg c] at h3; exact h3
    rw [e, wrap_in (by omega)]
    have : i % n - n + n = bring i n := by unfold bring; omega
    rw [this]; exact hR
  · have e : i.tmod n = i % n := by
      by_cases c : 0 ≤ i ∨ n ∣ i
      · rw [if_pos c] at h3; exact h3
      · rw [if_neg c] at h3; omega
    rw [e]; exact hR
theorem bring_r {i n : Int} (hn : 0 < n) : 0 ≤ bring i n ∧ bring i n < n := ⟨Int.emod_nonneg i (by omega), Int.emod_lt_of_pos i hn⟩

/-- a local packet -/
theorem newP_sep {H0 H : Heap} {Qs : List Asr} {p q : Pkt} {t : TypeId} (h : Sep H0 H Qs) : ∃ H', stE 6 (ptr H.size) (pv q) (newB H t (pktC p)) = some H' ∧ Sep H0 H' (cellsA H.size (pktC q) :: Qs) := by
  have er := Ext.refl [] (newB H t (pktC p))
  refine ⟨_, st_pkt er, ?_⟩
  exact (h.newC (t := t) (c := pktC p)).set
theorem ldP_sep {H0 H : Heap} {Qs : List Asr} {p : Pkt} {x : Nat} (h : Sep H0 H (cellsA x (pktC p) :: Qs)) : ldE true 6 (ptr x) H = some (pv p) := by
  simp only [ldE_t, rdA_u, own_blk h.cells, Option.bind_some, pktC_g, Option.map_some]
theorem bin_eqP {p q : Pkt} : binV (.agg [true, true, true, false, false, false]) .eql (pv p) (pv q) = some (.bool (decide (p = q))) := by
  obtain ⟨a, b, c, d, e, f⟩ := p
  obtain ⟨a', b', c', d', e', f'⟩ := q
  simp only [binV, eqV, isO, pktC, cellsEq, cellEq, if_true, Pkt.mk.injEq]
  congr 2
  rw [Bool.eq_iff_iff]; simp
theorem bin_neP {p q : Pkt} : binV (.agg [true, true, true, false, false, false]) .neq (pv p) (pv q) = some (.bool (!decide (p = q))) := by
  have := bin_eqP (p := p) (q := q)
  simp only [binV, isO] at this ⊢
  cases h : eqV (EqM.agg [true, true, true, false, false, false]) (pv p) (pv q) with
  | none => rw [h] at this; simp at this
  | some r => rw [h] at this; simp only [Option.some.injEq, Value.bool.injEq] at this; subst this; rfl
end Go.Hc

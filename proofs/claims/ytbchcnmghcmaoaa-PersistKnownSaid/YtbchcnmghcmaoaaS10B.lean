/- Pairs of lost packets, one behind the other. -/
import Derived.Test.YtbchcnmghcmaoaaS10A
import Derived.Test.YtbchcnmghcmaoaaHcP
set_option linter.unusedSimpArgs false
set_option linter.unusedVariables false
namespace Go.Hc
open Go

theorem OwnL.showA {A : Type} {E : Enc A} {H : Heap} {v : Value} {S : List Nat} {l : List A} (h : OwnL E H v S l) : ShowA E H v l := by
  have h2 := h.show
  obtain ⟨base, cap, e, hm, _⟩ := h.show
  exact ⟨⟨base, cap, e, hm⟩, .inr h2⟩
theorem st_pkt {t : TypeId} {K : Heap} {p : Pkt} : stE 6 (.pointer (some ⟨K.size, 0, none⟩)) (pv p) (newB K t (pktC pkt0)) = some (setB (newB K t (pktC pkt0)) K.size (pktC p)) := by
  rw [stE_p, show (pv p).cells = pktC p from rfl, if_pos pktC_s, wrA_b, own_newB_self]
  simp [pktC, isCell, splice]
theorem CutOK.of_own {A : Type} {E : Enc A} {H : Heap} {v : Value} {S : List Nat} {l : List A} (h : OwnL E H v S l) : CutOK v := by
  cases h with
  | nil => exact ⟨_, _, _, rfl, Nat.le_refl _, .inl rfl⟩
  | mk ho hr hc hl hm => exact ⟨_, _, _, rfl, hc, .inr fun a ha => by cases ha; rfl⟩
/-- what stands behind the first m -/
theorem ShowA.drop {A : Type} {E : Enc A} {H : Heap} {v : Value} {l : List A} (h : ShowA E H v l) (hc : CutOK v) (h0 : 0 < E.sz) {m : Nat} (hm : m ≤ l.length) {k : IntKind} {j : Int} (hj : j = m) :
    ∃ v', sliceV E.sz v (some (.int k j)) none = some v' ∧ ShowA E H v' (l.drop m) ∧ CutOK v' := by
  subst hj
  obtain ⟨⟨base, cap, rfl, hsm⟩, hs⟩ := h
  obtain ⟨base', n', cap', he, hle, hsp⟩ := hc
  cases he
  have hb : boundV 0 l.length (some (.int k (m : Int))) = some m := by
    show (if 0 ≤ (m : Int) ∧ (m : Int) ≤ (l.length : Int) then some (m : Int).toNat else none) = _
    rw [if_pos (by omega)]; simp
  have hb0 : boundV l.length cap none = some l.length := rfl
  have hlen : (l.drop m).length = l.length - m := by simp
  simp only [sliceV, hb, hb0]
  by_cases hcm : cap = m
  · rw [if_pos hcm]
    refine ⟨_, rfl, ⟨⟨_, _, by rw [hlen], by omega⟩, .inl ?_⟩, _, _, _, rfl, by omega, .inl (by omega)⟩
    exact List.drop_eq_nil_of_le (by omega)
  · rw [if_neg hcm]
    have hc0 : cap ≠ 0 := by omega
    have hno := hsp.resolve_left hc0
    split
    · rename_i b o s
      have := hno _ rfl
      cases this
    · refine ⟨_, rfl, ⟨⟨_, _, by rw [hlen], by omega⟩, ?_⟩, _, _, _, rfl, by omega, .inr fun a ha => ?_⟩
      · rcases Nat.lt_or_ge m l.length with hlt | hge
        · refine .inr ?_
          rcases hs with hs | hs
          · subst hs; simp at hlt
          obtain ⟨b2, c2, e, h3, cs, hcs, hr⟩ := hs
          cases e
          refine ⟨_, _, by rw [hlen], by omega, ?_⟩
          rw [hlen]
          cases base with
          | none =>
            simp only [rdS, Option.some.injEq] at hcs; subst hcs
            have h1 := hr.row 0 (by omega) 0 h0
            rw [show ((l[0]?).map E.c).getD #[] = E.c l[0] by simp [show 0 < l.length by omega]] at h1
            have h2 := E.len l[0]
            have h3 : (E.c l[0])[0]? = none := by rw [← h1]; rfl
            rw [Array.getElem?_eq_none_iff] at h3; omega
          | some a =>
            obtain ⟨b, o, s⟩ := a
            cases s with
            | some _ => simp [rdS] at hcs
            | none =>
              simp only [rdS, rdA, Option.map_some] at hcs ⊢
              cases hbk : blk H b with
              | none => simp [hbk] at hcs
              | some c =>
                rw [hbk] at hcs
                simp only [getC] at hcs ⊢
                split at hcs
                · rename_i hle2
                  simp only [Option.some.injEq] at hcs; subst hcs
                  have hmul : m * E.sz + (l.length - m) * E.sz = l.length * E.sz := by rw [← Nat.add_mul]; congr 1; omega
                  refine ⟨c.extract (o + m * E.sz) (o + m * E.sz + (l.length - m) * E.sz), by rw [if_pos (by omega)], ?_⟩
                  have h2 := (Rows.sub hr (d := m) (p := l.length - m) (by omega)).2
                  have e : (c.extract o (o + l.length * E.sz)).extract (m * E.sz) (m * E.sz + (l.length - m) * E.sz) = c.extract (o + m * E.sz) (o + m * E.sz + (l.length - m) * E.sz) := by
                    apply Array.ext_getElem?; intro i
                    rw [Array.getElem?_extract, Array.getElem?_extract]
                    by_cases hi : i < (l.length - m) * E.sz
                    · rw [if_pos (by simp; omega), if_pos (by omega), Array.getElem?_extract, if_pos (by omega)]; congr 1; omega
                    · rw [if_neg (by simp; omega), Array.getElem?_extract, if_neg (by omega)]
                  rw [e] at h2
                  exact h2.congr fun i hi => by rw [List.getElem?_drop]
                · simp at hcs
        · exact .inl (List.drop_eq_nil_of_le hge)
      · cases base with
        | none => cases ha
        | some a0 => cases ha; rfl

/-- which numbers were acknowledged, or that no list of them is -/
def AckV (K : Heap) (a : Value) (rs : List Rng) : Prop := (a = .pointer none ∧ rs = []) ∨ ∃ s room T, a = ptr s ∧ SetH K s room rs T
theorem AckV.ext {K K' : Heap} {a : Value} {rs : List Rng} (h : AckV K a rs) (he : Ext [] K K') : AckV K' a rs := by
  rcases h with h | ⟨s, room, T, h1, h2⟩
  · exact .inl h
  · exact .inr ⟨s, room, T, h1, h2.ext he (by simp)⟩
theorem Ranges_ack {K : Heap} {a : Value} {rs : List Rng} {R : Value → Heap → Prop} (h : AckV K a rs) (hR : ∀ v' K', Ext [] K K' → ShowA rngE K' v' rs.reverse → R v' K') : EvF P N.span_Set_Ranges #[a] K R := by
  rcases h with ⟨rfl, rfl⟩ | ⟨s, room, T, rfl, h2⟩
  · exact Ranges_nil (hR _ _ (Ext.refl _ _) ⟨⟨none, 0, rfl, by simp⟩, .inl rfl⟩)
  · exact Ranges_ev h2 fun v' S' H' e' _ hl => hR v' H' e' hl.showA
def okPk (p : Pkt) : Prop := 0 ≤ p.num ∧ p.num ≤ 9007199254740991 ∧ 0 ≤ p.time ∧ p.time ≤ 9007199254740991
def betw (rs : List Rng) (a b : Pkt) : Bool := rs.any fun r => decide (max r.1 (a.num + 1) ≤ min r.2 (b.num - 1))
def cntP (first : Int) (p : Pkt) : Bool := p.el && decide (first < p.time)
def pairOK (rs : List Rng) (first : Int) (a b : Pkt) : Bool := cntP first a && (cntP first b && (decide (a.time ≤ b.time) && !betw rs a b))
theorem counts_ev {H : Heap} {p : Pkt} {x : Nat} {first : Int} {R : Value → Heap → Prop} (hx : own H x = some #[iv first]) (hR : ∀ H', Ext [] H H' → R (.bool (cntP first p)) H') : EvF P N.persist_pairs_1 #[pv p, ptr x] H R := by
  refine z43_ev _ _ _ _ ?_
  have en : ∀ t, Ext [] H (newB H t (pktC p)) := fun t => (Ext.refl _ _).newB t _
  have hne : x ≠ H.size := by have := own_lt hx; omega
  simp only [z43_g5, z43_g6, persist_pairs_1]
  try simp only [bnd_some, brV_t, brV_f, brG_t, brG_f, newE_u, pickE_t, pickE_f, nilV_p, faV_p, ldE_f, ldE_t, rdA_u, stE_p, cells_int, cells_bool, cells_ptr, cells_slice, cells_func, cells_agg, bin_add, bin_sub, bin_mul, bin_eql, bin_neq, bin_lss, bin_leq, bin_gtr, bin_geq, bin_eqlb, bin_neqb, bin_eqlp, bin_eqlp0, bin_neqp, bin_neqp0, bin_eqls, bin_eqls0, un_not, un_neg, len_s, cap_s, ex_t, cv_i, callV_f, Option.bind_some, Option.map_some, Nat.zero_add, Nat.add_zero, Nat.reduceAdd, Nat.reduceMul, size_newB, size_setB, blk_newB_self, own_newB_self, wrA_b, own_setB_m, blk_setB_m, setB_setB, List.getElem?_toArray, List.getElem?_cons_zero, List.getElem?_cons_succ, List.length_cons, List.length_nil, List.all_cons, List.all_nil, isCell_int, isCell_bool, isCell_ptr, isCell_slice, isCell_func, Bool.and_true, Bool.and_self, and_self, if_true, List.size_toArray, and_true, true_and, Nat.reduceLeDiff, Nat.le_refl, Bool.not_true, Bool.not_false, Bool.true_and, Bool.false_and, Bool.and_false, Int.reduceBNe, Int.reduceBEq, Int.reduceLT, Int.reduceLE, decide_true, decide_false, pktC_3]
  refine brV_i (fun h => ?_) (fun h => ?_)
  · have : cntP first p = decide (first < p.time) := by unfold cntP; rw [h]; rfl
    rw [this] at hR
    try simp only [bnd_some, brV_t, brV_f, brG_t, brG_f, newE_u, pickE_t, pickE_f, nilV_p, faV_p, ldE_f, ldE_t, rdA_u, stE_p, cells_int, cells_bool, cells_ptr, cells_slice, cells_func, cells_agg, bin_add, bin_sub, bin_mul, bin_eql, bin_neq, bin_lss, bin_leq, bin_gtr, bin_geq, bin_eqlb, bin_neqb, bin_eqlp, bin_eqlp0, bin_neqp, bin_neqp0, bin_eqls, bin_eqls0, un_not, un_neg, len_s, cap_s, ex_t, cv_i, callV_f, Option.bind_some, Option.map_some, Nat.zero_add, Nat.add_zero, Nat.reduceAdd, Nat.reduceMul, size_newB, size_setB, blk_newB_self, own_newB_self, wrA_b, own_setB_m, blk_setB_m, setB_setB, List.getElem?_toArray, List.getElem?_cons_zero, List.getElem?_cons_succ, List.length_cons, List.length_nil, List.all_cons, List.all_nil, isCell_int, isCell_bool, isCell_ptr, isCell_slice, isCell_func, Bool.and_true, Bool.and_self, and_self, if_true, List.size_toArray, and_true, true_and, Nat.reduceLeDiff, Nat.le_refl, Bool.not_true, Bool.not_false, Bool.true_and, Bool.false_and, Bool.and_false, Int.reduceBNe, Int.reduceBEq, Int.reduceLT, Int.reduceLE, decide_true, decide_false, pktC_1, own_newB_ne hne, hx, blk_newB_ne hne, own_blk hx]
    exact hR _ (en _)
  · have : cntP first p = false := by unfold cntP; rw [h]; rfl
    rw [this] at hR
    exact hR _ (en _)
theorem in_ev {H : Heap} {a b : Pkt} {r : Rng} {x y : Nat} {R : Value → Heap → Prop} (hx : own H x = some (pktC a)) (hy : own H y = some (pktC b)) (ha : okPk a) (hb : okPk b)
    (hR : ∀ H', Ext [] H H' → R (.bool (decide (max r.1 (a.num + 1) ≤ min r.2 (b.num - 1)))) H') : EvF P N.persist_pairs_2_1 #[.agg (rngC r), ptr x, ptr y] H R := by
  refine z45_ev _ _ _ _ _ ?_
  have en : ∀ t, Ext [] H (newB H t (rngC r)) := fun t => (Ext.refl _ _).newB t _
  have hne : x ≠ H.size := by have := own_lt hx; omega
  have hney : y ≠ H.size := by have := own_lt hy; omega
  obtain ⟨a1, a2, _, _⟩ := ha
  obtain ⟨b1, b2, _, _⟩ := hb
  have w1 : IntKind.i64.wrap (a.num + 1) = a.num + 1 := wrap_in (by omega)
  have w2 : IntKind.i64.wrap (b.num - 1) = b.num - 1 := wrap_in (by omega)
  simp only [z45_g5, z45_g6, persist_pairs_2_1]
  try simp only [bnd_some, brV_t, brV_f, brG_t, brG_f, newE_u, pickE_t, pickE_f, nilV_p, faV_p, ldE_f, ldE_t, rdA_u, stE_p, cells_int, cells_bool, cells_ptr, cells_slice, cells_func, cells_agg, bin_add, bin_sub, bin_mul, bin_eql, bin_neq, bin_lss, bin_leq, bin_gtr, bin_geq, bin_eqlb, bin_neqb, bin_eqlp, bin_eqlp0, bin_neqp, bin_neqp0, bin_eqls, bin_eqls0, un_not, un_neg, len_s, cap_s, ex_t, cv_i, callV_f, Option.bind_some, Option.map_some, Nat.zero_add, Nat.add_zero, Nat.reduceAdd, Nat.reduceMul, size_newB, size_setB, blk_newB_self, own_newB_self, wrA_b, own_setB_m, blk_setB_m, setB_setB, List.getElem?_toArray, List.getElem?_cons_zero, List.getElem?_cons_succ, List.length_cons, List.length_nil, List.all_cons, List.all_nil, isCell_int, isCell_bool, isCell_ptr, isCell_slice, isCell_func, Bool.and_true, Bool.and_self, and_self, if_true, List.size_toArray, and_true, true_and, Nat.reduceLeDiff, Nat.le_refl, Bool.not_true, Bool.not_false, Bool.true_and, Bool.false_and, Bool.and_false, Int.reduceBNe, Int.reduceBEq, Int.reduceLT, Int.reduceLE, decide_true, decide_false, rngC_0, rngC_1, pktC_0, blk_newB_ne hne, own_blk hx, blk_newB_ne hney, own_blk hy, own_newB_ne hne, own_newB_ne hney, hx, hy, w1, w2, min_iv, max_iv]
  exact hR _ (en _)
theorem free_ev {H : Heap} {a b : Pkt} {rs : List Rng} {x : Nat} {av : Value} {R : Value → Heap → Prop} (hx : own H x = some #[av]) (hav : isCell av = true) (ha : okPk a) (hb : okPk b) (hack : AckV H av rs)
    (hR : ∀ H', Ext [] H H' → R (.bool (!betw rs a b)) H') : EvF P N.persist_pairs_2 #[pv a, pv b, ptr x] H R := by
  refine z44_ev _ _ _ _ _ ?_
  have en : ∀ t u, Ext [] H (newB (newB H t (pktC a)) u (pktC b)) := fun t u => ((Ext.refl _ _).newB t _).newB u _
  have hlt := own_lt hx
  have hne : x ≠ H.size := by omega
  have hne1 : x ≠ H.size + 1 := by omega
  simp only [z44_g7, z44_g8, z44_g9, persist_pairs_2]
  try simp only [bnd_some, brV_t, brV_f, brG_t, brG_f, newE_u, pickE_t, pickE_f, nilV_p, faV_p, ldE_f, ldE_t, rdA_u, stE_p, cells_int, cells_bool, cells_ptr, cells_slice, cells_func, cells_agg, bin_add, bin_sub, bin_mul, bin_eql, bin_neq, bin_lss, bin_leq, bin_gtr, bin_geq, bin_eqlb, bin_neqb, bin_eqlp, bin_eqlp0, bin_neqp, bin_neqp0, bin_eqls, bin_eqls0, un_not, un_neg, len_s, cap_s, ex_t, cv_i, callV_f, Option.bind_some, Option.map_some, Nat.zero_add, Nat.add_zero, Nat.reduceAdd, Nat.reduceMul, size_newB, size_setB, blk_newB_self, own_newB_self, wrA_b, own_setB_m, blk_setB_m, setB_setB, List.getElem?_toArray, List.getElem?_cons_zero, List.getElem?_cons_succ, List.length_cons, List.length_nil, List.all_cons, List.all_nil, isCell_int, isCell_bool, isCell_ptr, isCell_slice, isCell_func, Bool.and_true, Bool.and_self, and_self, if_true, List.size_toArray, and_true, true_and, Nat.reduceLeDiff, Nat.le_refl, Bool.not_true, Bool.not_false, Bool.true_and, Bool.false_and, Bool.and_false, Int.reduceBNe, Int.reduceBEq, Int.reduceLT, Int.reduceLE, decide_true, decide_false]
  generalize hK : newB (newB H _ _) _ _ = K
  have eK : Ext [] H K := by rw [← hK]; exact en _ _
  have q1 : own K H.size = some (pktC a) := by rw [← hK, own_newB_ne (by rw [size_newB]; omega), own_newB_self]
  have q2 : own K (H.size + 1) = some (pktC b) := by rw [← hK, show H.size + 1 = (newB H _ (pktC a)).size from (size_newB _ _ _).symm, own_newB_self]
  have qx := eK.own hx (by simp)
  try simp only [bnd_some, brV_t, brV_f, brG_t, brG_f, newE_u, pickE_t, pickE_f, nilV_p, faV_p, ldE_f, ldE_t, rdA_u, stE_p, cells_int, cells_bool, cells_ptr, cells_slice, cells_func, cells_agg, bin_add, bin_sub, bin_mul, bin_eql, bin_neq, bin_lss, bin_leq, bin_gtr, bin_geq, bin_eqlb, bin_neqb, bin_eqlp, bin_eqlp0, bin_neqp, bin_neqp0, bin_eqls, bin_eqls0, un_not, un_neg, len_s, cap_s, ex_t, cv_i, callV_f, Option.bind_some, Option.map_some, Nat.zero_add, Nat.add_zero, Nat.reduceAdd, Nat.reduceMul, size_newB, size_setB, blk_newB_self, own_newB_self, wrA_b, own_setB_m, blk_setB_m, setB_setB, List.getElem?_toArray, List.getElem?_cons_zero, List.getElem?_cons_succ, List.length_cons, List.length_nil, List.all_cons, List.all_nil, isCell_int, isCell_bool, isCell_ptr, isCell_slice, isCell_func, Bool.and_true, Bool.and_self, and_self, if_true, List.size_toArray, and_true, true_and, Nat.reduceLeDiff, Nat.le_refl, Bool.not_true, Bool.not_false, Bool.true_and, Bool.false_and, Bool.and_false, Int.reduceBNe, Int.reduceBEq, Int.reduceLT, Int.reduceLE, decide_true, decide_false, own_blk qx, qx, List.size_toArray]
  refine Ranges_ack (hack.ext eK) fun v' K1 e1 hv' => ?_
  try simp only [bnd_some, brV_t, brV_f, brG_t, brG_f, newE_u, pickE_t, pickE_f, nilV_p, faV_p, ldE_f, ldE_t, rdA_u, stE_p, cells_int, cells_bool, cells_ptr, cells_slice, cells_func, cells_agg, bin_add, bin_sub, bin_mul, bin_eql, bin_neq, bin_lss, bin_leq, bin_gtr, bin_geq, bin_eqlb, bin_neqb, bin_eqlp, bin_eqlp0, bin_neqp, bin_neqp0, bin_eqls, bin_eqls0, un_not, un_neg, len_s, cap_s, ex_t, cv_i, callV_f, Option.bind_some, Option.map_some, Nat.zero_add, Nat.add_zero, Nat.reduceAdd, Nat.reduceMul, size_newB, size_setB, blk_newB_self, own_newB_self, wrA_b, own_setB_m, blk_setB_m, setB_setB, List.getElem?_toArray, List.getElem?_cons_zero, List.getElem?_cons_succ, List.length_cons, List.length_nil, List.all_cons, List.all_nil, isCell_int, isCell_bool, isCell_ptr, isCell_slice, isCell_func, Bool.and_true, Bool.and_self, and_self, if_true, List.size_toArray, and_true, true_and, Nat.reduceLeDiff, Nat.le_refl, Bool.not_true, Bool.not_false, Bool.true_and, Bool.false_and, Bool.and_false, Int.reduceBNe, Int.reduceBEq, Int.reduceLT, Int.reduceLE, decide_true, decide_false]
  refine ContainsR_ev (fun k K' => Ext [] K1 K' ∧ ∀ j (hj : j < rs.reverse.length), j < k → decide (max rs.reverse[j].1 (a.num + 1) ≤ min rs.reverse[j].2 (b.num - 1)) = false) ⟨Ext.refl _ _, by omega⟩ (fun k K' h => hv'.ext h.1) (fun k hk K' hI => ?_) (fun K' hI => ?_)
  · have e := e1.trans hI.1
    show EvF P N.persist_pairs_2_1 #[.agg (rngC rs.reverse[k]), ptr H.size, ptr (H.size + 1)] K' _
    refine in_ev (e.own q1 (by simp)) (e.own q2 (by simp)) ha hb fun K2 e2 => ⟨_, rfl, fun h => ⟨hI.1.trans e2, fun j hj hjk => ?_⟩, fun h => ?_⟩
    · rcases Nat.lt_or_ge j k with h1 | h1
      · exact hI.2 j hj h1
      · have : j = k := by omega
        subst this; exact h
    · have hbt : betw rs a b = true := List.any_eq_true.2 ⟨_, List.mem_reverse.1 (List.getElem_mem hk), h⟩
      have := hR K2 (eK.trans (e.trans e2))
      rw [hbt] at this
      try simp only [bnd_some, brV_t, brV_f, brG_t, brG_f, newE_u, pickE_t, pickE_f, nilV_p, faV_p, ldE_f, ldE_t, rdA_u, stE_p, cells_int, cells_bool, cells_ptr, cells_slice, cells_func, cells_agg, bin_add, bin_sub, bin_mul, bin_eql, bin_neq, bin_lss, bin_leq, bin_gtr, bin_geq, bin_eqlb, bin_neqb, bin_eqlp, bin_eqlp0, bin_neqp, bin_neqp0, bin_eqls, bin_eqls0, un_not, un_neg, len_s, cap_s, ex_t, cv_i, callV_f, Option.bind_some, Option.map_some, Nat.zero_add, Nat.add_zero, Nat.reduceAdd, Nat.reduceMul, size_newB, size_setB, blk_newB_self, own_newB_self, wrA_b, own_setB_m, blk_setB_m, setB_setB, List.getElem?_toArray, List.getElem?_cons_zero, List.getElem?_cons_succ, List.length_cons, List.length_nil, List.all_cons, List.all_nil, isCell_int, isCell_bool, isCell_ptr, isCell_slice, isCell_func, Bool.and_true, Bool.and_self, and_self, if_true, List.size_toArray, and_true, true_and, Nat.reduceLeDiff, Nat.le_refl, Bool.not_true, Bool.not_false, Bool.true_and, Bool.false_and, Bool.and_false, Int.reduceBNe, Int.reduceBEq, Int.reduceLT, Int.reduceLE, decide_true, decide_false]
      exact this
  · have hbt : betw rs a b = false := by
      cases hb : betw rs a b with
      | false => rfl
      | true =>
        obtain ⟨r, hr, h⟩ := List.any_eq_true.1 hb
        obtain ⟨j, hj, rfl⟩ := List.getElem_of_mem (List.mem_reverse.2 hr)
        have := hI.2 j hj hj
        rw [h] at this; cases this
    have := hR K' (eK.trans (e1.trans hI.1))
    rw [hbt] at this
    try simp only [bnd_some, brV_t, brV_f, brG_t, brG_f, newE_u, pickE_t, pickE_f, nilV_p, faV_p, ldE_f, ldE_t, rdA_u, stE_p, cells_int, cells_bool, cells_ptr, cells_slice, cells_func, cells_agg, bin_add, bin_sub, bin_mul, bin_eql, bin_neq, bin_lss, bin_leq, bin_gtr, bin_geq, bin_eqlb, bin_neqb, bin_eqlp, bin_eqlp0, bin_neqp, bin_neqp0, bin_eqls, bin_eqls0, un_not, un_neg, len_s, cap_s, ex_t, cv_i, callV_f, Option.bind_some, Option.map_some, Nat.zero_add, Nat.add_zero, Nat.reduceAdd, Nat.reduceMul, size_newB, size_setB, blk_newB_self, own_newB_self, wrA_b, own_setB_m, blk_setB_m, setB_setB, List.getElem?_toArray, List.getElem?_cons_zero, List.getElem?_cons_succ, List.length_cons, List.length_nil, List.all_cons, List.all_nil, isCell_int, isCell_bool, isCell_ptr, isCell_slice, isCell_func, Bool.and_true, Bool.and_self, and_self, if_true, List.size_toArray, and_true, true_and, Nat.reduceLeDiff, Nat.le_refl, Bool.not_true, Bool.not_false, Bool.true_and, Bool.false_and, Bool.and_false, Int.reduceBNe, Int.reduceBEq, Int.reduceLT, Int.reduceLE, decide_true, decide_false]
    exact this

/-- the walk over the pairs, what a state becomes at each -/
def innerF {σ : Type} (g : σ → Pkt → Pkt → σ) (ok : Pkt → Pkt → Bool) (a : Pkt) : List Pkt → σ → σ
  | [], s => s
  | b :: l, s => innerF g ok a l (if ok a b then g s a b else s)
def outerF {σ : Type} (g : σ → Pkt → Pkt → σ) (ok : Pkt → Pkt → Bool) : List Pkt → σ → σ
  | [], s => s
  | a :: l, s => outerF g ok l (innerF g ok a l s)
/-- what the pairs need, in their boxes -/
structure PairsAt (H : Heap) (v a : Value) (first : Int) (x3 x4 x5 x7 x8 : Nat) (K : Heap) : Prop where
  e : Ext [] H K
  b3 : own K x3 = some #[v]
  b4 : own K x4 = some #[a]
  b5 : own K x5 = some #[iv first]
  b7 : own K x7 = some #[.func (.func N.persist_pairs_1) #[] #[ptr x5]]
  b8 : own K x8 = some #[.func (.func N.persist_pairs_2) #[] #[ptr x4]]
theorem pairs3_ev {σ : Type} {H H1 : Heap} {v a y : Value} {first : Int} {x3 x4 x5 x7 x8 : Nat} {l : List Pkt} {rs : List Rng} {S : List Nat} {s0 : σ} {g : σ → Pkt → Pkt → σ} {R : Value → Heap → Prop} (I : σ → Heap → Prop)
    (hv : ShowA pktE H v l) (hc : CutOK v) (hvc : isCell v = true) (hok : ∀ p ∈ l, okPk p) (hack : AckV H a rs) (hac : isCell a = true)
    (hI : ∀ s K, I s K → PairsAt H v a first x3 x4 x5 x7 x8 K) (hx : ∀ s K K', I s K → Ext [] K K' → I s K') (h0 : I s0 H1)
    (step : ∀ s p q K, p ∈ l → q ∈ l → pairOK rs first p q = true → I s K → callV P y [pv p, pv q] K fun v K' => v = .bool true ∧ I (g s p q) K' ∧ Ext S K K') (hS : ∀ b ∈ S, b < H1.size)
    (hR : ∀ K, I (outerF g (pairOK rs first) l s0) K → R (.tuple #[]) K) : EvL P N.persist_pairs_3 #[y, ptr x3, ptr x7, ptr x8] H1 R := by
  refine z48_ev0 _ _ _ _ _ _ ?_
  have hsm := hv.small
  have a0 := hI _ _ h0
  simp only [persist_pairs_3, z48_g32]
  try simp only [bnd_some, brV_t, brV_f, brG_t, brG_f, newE_u, pickE_t, pickE_f, nilV_p, faV_p, cells_int, cells_bool, cells_ptr, cells_slice, cells_func, cells_agg, bin_eql, bin_neq, bin_lss, bin_leq, bin_gtr, bin_geq, bin_eqlb, bin_neqb, bin_eqlp, bin_eqlp0, bin_neqp, bin_neqp0, bin_eqls, bin_eqls0, un_not, un_neg, len_s, cap_s, ex_t, cv_i, callV_f, Option.bind_some, Option.map_some, Nat.zero_add, Nat.add_zero, Nat.reduceAdd, Nat.reduceMul, size_newB, size_setB, blk_newB_self, own_newB_self, setB_setB, List.getElem?_toArray, List.getElem?_cons_zero, List.getElem?_cons_succ, List.length_cons, List.length_nil, List.all_cons, List.all_nil, isCell_int, isCell_bool, isCell_ptr, isCell_slice, isCell_func, Bool.and_true, Bool.and_self, and_self, if_true, List.size_toArray, and_true, true_and, Nat.reduceLeDiff, Nat.le_refl, Bool.not_true, Bool.not_false, Bool.true_and, Bool.false_and, Bool.and_false, Int.reduceBNe, Int.reduceBEq, Int.reduceLT, Int.reduceLE, decide_true, decide_false, own_blk a0.b3, ldE_f, List.size_toArray, hv.len]
  simp only [z48_l51]
  refine ⟨fun x K => ∃ i s, x = iv (i : Nat) ∧ i ≤ l.length ∧ I s K ∧ Ext S H1 K ∧ outerF g (pairOK rs first) (l.drop i) s = outerF g (pairOK rs first) l s0, fun x _ => (match x with | .int _ k => (l.length - k).toNat | _ => 0), ⟨0, s0, rfl, by omega, h0, Ext.refl _ _, by simp⟩, ?_⟩
  rintro x K ⟨i, s, rfl, hi, hIs, hE, hfin⟩
  have hK := hI _ _ hIs
  simp only [z48_s33, z48_g34]
  try simp only [bnd_some, brV_t, brV_f, brG_t, brG_f, newE_u, pickE_t, pickE_f, nilV_p, faV_p, cells_int, cells_bool, cells_ptr, cells_slice, cells_func, cells_agg, bin_eql, bin_neq, bin_lss, bin_leq, bin_gtr, bin_geq, bin_eqlb, bin_neqb, bin_eqlp, bin_eqlp0, bin_neqp, bin_neqp0, bin_eqls, bin_eqls0, un_not, un_neg, len_s, cap_s, ex_t, cv_i, callV_f, Option.bind_some, Option.map_some, Nat.zero_add, Nat.add_zero, Nat.reduceAdd, Nat.reduceMul, size_newB, size_setB, blk_newB_self, own_newB_self, setB_setB, List.getElem?_toArray, List.getElem?_cons_zero, List.getElem?_cons_succ, List.length_cons, List.length_nil, List.all_cons, List.all_nil, isCell_int, isCell_bool, isCell_ptr, isCell_slice, isCell_func, Bool.and_true, Bool.and_self, and_self, if_true, List.size_toArray, and_true, true_and, Nat.reduceLeDiff, Nat.le_refl, Bool.not_true, Bool.not_false, Bool.true_and, Bool.false_and, Bool.and_false, Int.reduceBNe, Int.reduceBEq, Int.reduceLT, Int.reduceLE, decide_true, decide_false]
  refine brV_d (fun hlt => ?_) (fun hge => ?_)
  · have hi' : i < l.length := by omega
    obtain ⟨b, o, c, i1, _, _, i4⟩ := (hv.ext hK.e).ix (by decide) hi' (rfl : (i : Int) = i)
    have i1' : ixSV 6 v (iv i) = _ := i1
    have i4' : ldE true 6 _ K = some (pv l[i]) := i4
    have w5 : IntKind.i64.wrap ((i : Int) + 1) = ((i + 1 : Nat) : Int) := by rw [wrap_in (by omega)]; omega
    obtain ⟨v', hs1, hv', hc'⟩ := hv.drop hc (by decide) (show i + 1 ≤ l.length by omega) (k := .i64) (rfl : ((i + 1 : Nat) : Int) = (i + 1 : Nat))
    have hs1' : sliceV 6 v (some (iv (i + 1 : Nat))) none = some v' := hs1
    simp only [z48_g35, z48_g36]
    try simp only [bnd_some, brV_t, brV_f, brG_t, brG_f, newE_u, pickE_t, pickE_f, nilV_p, faV_p, cells_int, cells_bool, cells_ptr, cells_slice, cells_func, cells_agg, bin_eql, bin_neq, bin_lss, bin_leq, bin_gtr, bin_geq, bin_eqlb, bin_neqb, bin_eqlp, bin_eqlp0, bin_neqp, bin_neqp0, bin_eqls, bin_eqls0, un_not, un_neg, len_s, cap_s, ex_t, cv_i, callV_f, Option.bind_some, Option.map_some, Nat.zero_add, Nat.add_zero, Nat.reduceAdd, Nat.reduceMul, size_newB, size_setB, blk_newB_self, own_newB_self, setB_setB, List.getElem?_toArray, List.getElem?_cons_zero, List.getElem?_cons_succ, List.length_cons, List.length_nil, List.all_cons, List.all_nil, isCell_int, isCell_bool, isCell_ptr, isCell_slice, isCell_func, Bool.and_true, Bool.and_self, and_self, if_true, List.size_toArray, and_true, true_and, Nat.reduceLeDiff, Nat.le_refl, Bool.not_true, Bool.not_false, Bool.true_and, Bool.false_and, Bool.and_false, Int.reduceBNe, Int.reduceBEq, Int.reduceLT, Int.reduceLE, decide_true, decide_false, i1', i4', pkt0_C, st_pkt]
    generalize hK1 : setB (newB K _ _) _ _ = K1
    have e1 : Ext [] K K1 := by rw [← hK1]; exact ((Ext.refl _ _).newB _ _).setB _ _ (Or.inr (Nat.le_refl _))
    have q6 : own K1 K.size = some (pktC l[i]) := by rw [← hK1]; exact own_setB_same own_newB_self
    have hI1 := hx _ _ _ hIs e1
    have hA1 := hI _ _ hI1
    have hE1 : Ext S H1 K1 := hE.trans (e1.mono (by simp))
    have hk6 : K.size ∉ S := fun h => by have := hS _ h; have := hE.size; omega
    try simp only [bnd_some, brV_t, brV_f, brG_t, brG_f, newE_u, pickE_t, pickE_f, nilV_p, faV_p, cells_int, cells_bool, cells_ptr, cells_slice, cells_func, cells_agg, bin_eql, bin_neq, bin_lss, bin_leq, bin_gtr, bin_geq, bin_eqlb, bin_neqb, bin_eqlp, bin_eqlp0, bin_neqp, bin_neqp0, bin_eqls, bin_eqls0, un_not, un_neg, len_s, cap_s, ex_t, cv_i, callV_f, Option.bind_some, Option.map_some, Nat.zero_add, Nat.add_zero, Nat.reduceAdd, Nat.reduceMul, size_newB, size_setB, blk_newB_self, own_newB_self, setB_setB, List.getElem?_toArray, List.getElem?_cons_zero, List.getElem?_cons_succ, List.length_cons, List.length_nil, List.all_cons, List.all_nil, isCell_int, isCell_bool, isCell_ptr, isCell_slice, isCell_func, Bool.and_true, Bool.and_self, and_self, if_true, List.size_toArray, and_true, true_and, Nat.reduceLeDiff, Nat.le_refl, Bool.not_true, Bool.not_false, Bool.true_and, Bool.false_and, Bool.and_false, Int.reduceBNe, Int.reduceBEq, Int.reduceLT, Int.reduceLE, decide_true, decide_false, ldE_f, own_blk hA1.b3, List.size_toArray, bin_add, w5, hs1', hv'.len]
    simp only [z48_l50]
    refine ⟨fun x K' => ∃ j s', x = iv (j : Nat) ∧ j ≤ (l.drop (i + 1)).length ∧ I s' K' ∧ Ext S H1 K' ∧ own K' K.size = some (pktC l[i]) ∧ innerF g (pairOK rs first) l[i] ((l.drop (i + 1)).drop j) s' = innerF g (pairOK rs first) l[i] (l.drop (i + 1)) s,
      fun x _ => (match x with | .int _ k => ((l.drop (i + 1)).length - k).toNat | _ => 0), ⟨0, s, rfl, by omega, hI1, hE1, q6, by simp⟩, ?_⟩
    rintro x K2 ⟨j, s', rfl, hj, hIs', hE2, q6', hfin'⟩
    simp only [z48_s37, z48_g38]
    try simp only [bnd_some, brV_t, brV_f, brG_t, brG_f, newE_u, pickE_t, pickE_f, nilV_p, faV_p, cells_int, cells_bool, cells_ptr, cells_slice, cells_func, cells_agg, bin_eql, bin_neq, bin_lss, bin_leq, bin_gtr, bin_geq, bin_eqlb, bin_neqb, bin_eqlp, bin_eqlp0, bin_neqp, bin_neqp0, bin_eqls, bin_eqls0, un_not, un_neg, len_s, cap_s, ex_t, cv_i, callV_f, Option.bind_some, Option.map_some, Nat.zero_add, Nat.add_zero, Nat.reduceAdd, Nat.reduceMul, size_newB, size_setB, blk_newB_self, own_newB_self, setB_setB, List.getElem?_toArray, List.getElem?_cons_zero, List.getElem?_cons_succ, List.length_cons, List.length_nil, List.all_cons, List.all_nil, isCell_int, isCell_bool, isCell_ptr, isCell_slice, isCell_func, Bool.and_true, Bool.and_self, and_self, if_true, List.size_toArray, and_true, true_and, Nat.reduceLeDiff, Nat.le_refl, Bool.not_true, Bool.not_false, Bool.true_and, Bool.false_and, Bool.and_false, Int.reduceBNe, Int.reduceBEq, Int.reduceLT, Int.reduceLE, decide_true, decide_false]
    have hdl : (l.drop (i + 1)).length = l.length - (i + 1) := by simp
    refine brV_d (fun hlt2 => ?_) (fun hge2 => ?_)
    · have hj' : j < (l.drop (i + 1)).length := by omega
      obtain ⟨b, o, c, j1, _, _, j4⟩ := (hv'.ext (hI _ _ hIs').e).ix (by decide) hj' (rfl : (j : Int) = j)
      have j1' : ixSV 6 v' (iv j) = _ := j1
      have j4' : ldE true 6 _ K2 = some (pv (l.drop (i + 1))[j]) := j4
      have hma : l[i] ∈ l := List.getElem_mem hi'
      have hmb : (l.drop (i + 1))[j] ∈ l := List.mem_of_mem_drop (List.getElem_mem hj')
      have w6 : IntKind.i64.wrap ((j : Int) + 1) = ((j + 1 : Nat) : Int) := by rw [wrap_in (by omega)]; omega
      obtain ⟨q, hq⟩ : ∃ q, q = (l.drop (i + 1))[j] := ⟨_, rfl⟩
      obtain ⟨p, hp⟩ : ∃ p, p = l[i] := ⟨_, rfl⟩
      rw [← hq] at j4' hmb
      rw [← hp] at q6' hfin' hma
      simp only [z48_g39, z48_g40]
      try simp only [bnd_some, brV_t, brV_f, brG_t, brG_f, newE_u, pickE_t, pickE_f, nilV_p, faV_p, cells_int, cells_bool, cells_ptr, cells_slice, cells_func, cells_agg, bin_eql, bin_neq, bin_lss, bin_leq, bin_gtr, bin_geq, bin_eqlb, bin_neqb, bin_eqlp, bin_eqlp0, bin_neqp, bin_neqp0, bin_eqls, bin_eqls0, un_not, un_neg, len_s, cap_s, ex_t, cv_i, callV_f, Option.bind_some, Option.map_some, Nat.zero_add, Nat.add_zero, Nat.reduceAdd, Nat.reduceMul, size_newB, size_setB, blk_newB_self, own_newB_self, setB_setB, List.getElem?_toArray, List.getElem?_cons_zero, List.getElem?_cons_succ, List.length_cons, List.length_nil, List.all_cons, List.all_nil, isCell_int, isCell_bool, isCell_ptr, isCell_slice, isCell_func, Bool.and_true, Bool.and_self, and_self, if_true, List.size_toArray, and_true, true_and, Nat.reduceLeDiff, Nat.le_refl, Bool.not_true, Bool.not_false, Bool.true_and, Bool.false_and, Bool.and_false, Int.reduceBNe, Int.reduceBEq, Int.reduceLT, Int.reduceLE, decide_true, decide_false, j1', j4', pkt0_C, st_pkt]
      generalize hK3 : setB (newB K2 _ _) _ _ = K3
      have e3 : Ext [] K2 K3 := by rw [← hK3]; exact ((Ext.refl _ _).newB _ _).setB _ _ (Or.inr (Nat.le_refl _))
      have q8 : own K3 K2.size = some (pktC q) := by rw [← hK3]; exact own_setB_same own_newB_self
      have q7 := e3.own q6' (by simp)
      have hI3 := hx _ _ _ hIs' e3
      have hE3 : Ext S H1 K3 := hE2.trans (e3.mono (by simp))
      have hA3 := hI _ _ hI3
      have hdr : (l.drop (i + 1)).drop j = q :: (l.drop (i + 1)).drop (j + 1) := by rw [hq, ← List.drop_eq_getElem_cons]
      rw [hdr] at hfin'
      try simp only [bnd_some, brV_t, brV_f, brG_t, brG_f, newE_u, pickE_t, pickE_f, nilV_p, faV_p, cells_int, cells_bool, cells_ptr, cells_slice, cells_func, cells_agg, bin_eql, bin_neq, bin_lss, bin_leq, bin_gtr, bin_geq, bin_eqlb, bin_neqb, bin_eqlp, bin_eqlp0, bin_neqp, bin_neqp0, bin_eqls, bin_eqls0, un_not, un_neg, len_s, cap_s, ex_t, cv_i, callV_f, Option.bind_some, Option.map_some, Nat.zero_add, Nat.add_zero, Nat.reduceAdd, Nat.reduceMul, size_newB, size_setB, blk_newB_self, own_newB_self, setB_setB, List.getElem?_toArray, List.getElem?_cons_zero, List.getElem?_cons_succ, List.length_cons, List.length_nil, List.all_cons, List.all_nil, isCell_int, isCell_bool, isCell_ptr, isCell_slice, isCell_func, Bool.and_true, Bool.and_self, and_self, if_true, List.size_toArray, and_true, true_and, Nat.reduceLeDiff, Nat.le_refl, Bool.not_true, Bool.not_false, Bool.true_and, Bool.false_and, Bool.and_false, Int.reduceBNe, Int.reduceBEq, Int.reduceLT, Int.reduceLE, decide_true, decide_false, ldE_f, ldE_t, rdA_u, own_blk hA3.b7, own_blk q7, pktC_g, List.size_toArray]
      refine counts_ev hA3.b5 fun K4 e4 => ?_
      have hI4 := hx _ _ _ hI3 e4
      have hE4 : Ext S H1 K4 := hE3.trans (e4.mono (by simp))
      have mk : ∀ K' s2, I s2 K' → Ext S H1 K' → own K' K.size = some (pktC p) → s2 = (if pairOK rs first p q = true then g s' p q else s') →
          ∃ (j_1 : Nat) (s'' : σ), iv ((j + 1 : Nat) : Int) = iv j_1 ∧ j_1 ≤ (l.drop (i + 1)).length ∧ I s'' K' ∧ Ext S H1 K' ∧ own K' K.size = some (pktC p) ∧ innerF g (pairOK rs first) p ((l.drop (i + 1)).drop j_1) s'' = innerF g (pairOK rs first) p (l.drop (i + 1)) s :=
        fun K' s2 h1 h2 h3 h4 => ⟨j + 1, s2, rfl, by omega, h1, h2, h3, by rw [← hfin', h4]; rfl⟩
      have noK : ∀ K', Ext [] K4 K' → pairOK rs first p q = false → _ := fun K' e h => mk K' s' (hx _ _ _ hI4 e) (hE4.trans (e.mono (by simp))) ((e4.trans e).own q7 (by simp)) (by rw [if_neg (by rw [h]; simp)])
      subst hp
      refine brV_i (fun c1 => ?_) (fun c1 => ?_)
      · have hA4 := hI _ _ hI4
        have q8' := e4.own q8 (by simp)
        try simp only [bnd_some, brV_t, brV_f, brG_t, brG_f, newE_u, pickE_t, pickE_f, nilV_p, faV_p, cells_int, cells_bool, cells_ptr, cells_slice, cells_func, cells_agg, bin_eql, bin_neq, bin_lss, bin_leq, bin_gtr, bin_geq, bin_eqlb, bin_neqb, bin_eqlp, bin_eqlp0, bin_neqp, bin_neqp0, bin_eqls, bin_eqls0, un_not, un_neg, len_s, cap_s, ex_t, cv_i, callV_f, Option.bind_some, Option.map_some, Nat.zero_add, Nat.add_zero, Nat.reduceAdd, Nat.reduceMul, size_newB, size_setB, blk_newB_self, own_newB_self, setB_setB, List.getElem?_toArray, List.getElem?_cons_zero, List.getElem?_cons_succ, List.length_cons, List.length_nil, List.all_cons, List.all_nil, isCell_int, isCell_bool, isCell_ptr, isCell_slice, isCell_func, Bool.and_true, Bool.and_self, and_self, if_true, List.size_toArray, and_true, true_and, Nat.reduceLeDiff, Nat.le_refl, Bool.not_true, Bool.not_false, Bool.true_and, Bool.false_and, Bool.and_false, Int.reduceBNe, Int.reduceBEq, Int.reduceLT, Int.reduceLE, decide_true, decide_false, ldE_f, ldE_t, rdA_u, own_blk hA4.b7, own_blk q8', pktC_g, List.size_toArray]
        refine counts_ev hA4.b5 fun K5 e5 => ?_
        have hI5 := hx _ _ _ hI4 e5
        have hE5 : Ext S H1 K5 := hE4.trans (e5.mono (by simp))
        refine brV_i (fun c2 => ?_) (fun c2 => ?_)
        · have r8 := e5.own q8' (by simp)
          have r7 := e5.own (e4.own q7 (by simp)) (by simp)
          have hA5 := hI _ _ hI5
          try simp only [bnd_some, brV_t, brV_f, brG_t, brG_f, newE_u, pickE_t, pickE_f, nilV_p, faV_p, cells_int, cells_bool, cells_ptr, cells_slice, cells_func, cells_agg, bin_eql, bin_neq, bin_lss, bin_leq, bin_gtr, bin_geq, bin_eqlb, bin_neqb, bin_eqlp, bin_eqlp0, bin_neqp, bin_neqp0, bin_eqls, bin_eqls0, un_not, un_neg, len_s, cap_s, ex_t, cv_i, callV_f, Option.bind_some, Option.map_some, Nat.zero_add, Nat.add_zero, Nat.reduceAdd, Nat.reduceMul, size_newB, size_setB, blk_newB_self, own_newB_self, setB_setB, List.getElem?_toArray, List.getElem?_cons_zero, List.getElem?_cons_succ, List.length_cons, List.length_nil, List.all_cons, List.all_nil, isCell_int, isCell_bool, isCell_ptr, isCell_slice, isCell_func, Bool.and_true, Bool.and_self, and_self, if_true, List.size_toArray, and_true, true_and, Nat.reduceLeDiff, Nat.le_refl, Bool.not_true, Bool.not_false, Bool.true_and, Bool.false_and, Bool.and_false, Int.reduceBNe, Int.reduceBEq, Int.reduceLT, Int.reduceLE, decide_true, decide_false, ldE_f, ldE_t, rdA_u, own_blk r8, own_blk r7, pktC_1, List.size_toArray]
          refine brV_d (fun c3 => ?_) (fun c3 => ?_)
          · try simp only [bnd_some, brV_t, brV_f, brG_t, brG_f, newE_u, pickE_t, pickE_f, nilV_p, faV_p, cells_int, cells_bool, cells_ptr, cells_slice, cells_func, cells_agg, bin_eql, bin_neq, bin_lss, bin_leq, bin_gtr, bin_geq, bin_eqlb, bin_neqb, bin_eqlp, bin_eqlp0, bin_neqp, bin_neqp0, bin_eqls, bin_eqls0, un_not, un_neg, len_s, cap_s, ex_t, cv_i, callV_f, Option.bind_some, Option.map_some, Nat.zero_add, Nat.add_zero, Nat.reduceAdd, Nat.reduceMul, size_newB, size_setB, blk_newB_self, own_newB_self, setB_setB, List.getElem?_toArray, List.getElem?_cons_zero, List.getElem?_cons_succ, List.length_cons, List.length_nil, List.all_cons, List.all_nil, isCell_int, isCell_bool, isCell_ptr, isCell_slice, isCell_func, Bool.and_true, Bool.and_self, and_self, if_true, List.size_toArray, and_true, true_and, Nat.reduceLeDiff, Nat.le_refl, Bool.not_true, Bool.not_false, Bool.true_and, Bool.false_and, Bool.and_false, Int.reduceBNe, Int.reduceBEq, Int.reduceLT, Int.reduceLE, decide_true, decide_false, ldE_f, ldE_t, rdA_u, own_blk r8, own_blk r7, own_blk hA5.b8, pktC_g, List.size_toArray]
            refine free_ev hA5.b4 hac (hok l[i] hma) (hok q hmb) (hack.ext hA5.e) fun K6 e6 => ?_
            have hI6 := hx _ _ _ hI5 e6
            have hE6 : Ext S H1 K6 := hE5.trans (e6.mono (by simp))
            refine brV_i (fun c4 => ?_) (fun c4 => ?_)
            · have t8 := e6.own r8 (by simp)
              have t7 := e6.own r7 (by simp)
              have hpair : pairOK rs first l[i] q = true := by unfold pairOK; rw [c1, c2, c4, decide_eq_true c3]; rfl
              try simp only [bnd_some, brV_t, brV_f, brG_t, brG_f, newE_u, pickE_t, pickE_f, nilV_p, faV_p, cells_int, cells_bool, cells_ptr, cells_slice, cells_func, cells_agg, bin_eql, bin_neq, bin_lss, bin_leq, bin_gtr, bin_geq, bin_eqlb, bin_neqb, bin_eqlp, bin_eqlp0, bin_neqp, bin_neqp0, bin_eqls, bin_eqls0, un_not, un_neg, len_s, cap_s, ex_t, cv_i, callV_f, Option.bind_some, Option.map_some, Nat.zero_add, Nat.add_zero, Nat.reduceAdd, Nat.reduceMul, size_newB, size_setB, blk_newB_self, own_newB_self, setB_setB, List.getElem?_toArray, List.getElem?_cons_zero, List.getElem?_cons_succ, List.length_cons, List.length_nil, List.all_cons, List.all_nil, isCell_int, isCell_bool, isCell_ptr, isCell_slice, isCell_func, Bool.and_true, Bool.and_self, and_self, if_true, List.size_toArray, and_true, true_and, Nat.reduceLeDiff, Nat.le_refl, Bool.not_true, Bool.not_false, Bool.true_and, Bool.false_and, Bool.and_false, Int.reduceBNe, Int.reduceBEq, Int.reduceLT, Int.reduceLE, decide_true, decide_false, ldE_f, ldE_t, rdA_u, own_blk t8, own_blk t7, pktC_g, List.size_toArray]
              refine callV_mono (fun x K7 hh => ?_) (step s' l[i] q K6 hma hmb hpair hI6)
              obtain ⟨rfl, hI7, e7⟩ := hh
              try simp only [bnd_some, brV_t, brV_f, brG_t, brG_f, newE_u, pickE_t, pickE_f, nilV_p, faV_p, cells_int, cells_bool, cells_ptr, cells_slice, cells_func, cells_agg, bin_eql, bin_neq, bin_lss, bin_leq, bin_gtr, bin_geq, bin_eqlb, bin_neqb, bin_eqlp, bin_eqlp0, bin_neqp, bin_neqp0, bin_eqls, bin_eqls0, un_not, un_neg, len_s, cap_s, ex_t, cv_i, callV_f, Option.bind_some, Option.map_some, Nat.zero_add, Nat.add_zero, Nat.reduceAdd, Nat.reduceMul, size_newB, size_setB, blk_newB_self, own_newB_self, setB_setB, List.getElem?_toArray, List.getElem?_cons_zero, List.getElem?_cons_succ, List.length_cons, List.length_nil, List.all_cons, List.all_nil, isCell_int, isCell_bool, isCell_ptr, isCell_slice, isCell_func, Bool.and_true, Bool.and_self, and_self, if_true, List.size_toArray, and_true, true_and, Nat.reduceLeDiff, Nat.le_refl, Bool.not_true, Bool.not_false, Bool.true_and, Bool.false_and, Bool.and_false, Int.reduceBNe, Int.reduceBEq, Int.reduceLT, Int.reduceLE, decide_true, decide_false, z48_g41]
              try simp only [bnd_some, brV_t, brV_f, brG_t, brG_f, newE_u, pickE_t, pickE_f, nilV_p, faV_p, cells_int, cells_bool, cells_ptr, cells_slice, cells_func, cells_agg, bin_eql, bin_neq, bin_lss, bin_leq, bin_gtr, bin_geq, bin_eqlb, bin_neqb, bin_eqlp, bin_eqlp0, bin_neqp, bin_neqp0, bin_eqls, bin_eqls0, un_not, un_neg, len_s, cap_s, ex_t, cv_i, callV_f, Option.bind_some, Option.map_some, Nat.zero_add, Nat.add_zero, Nat.reduceAdd, Nat.reduceMul, size_newB, size_setB, blk_newB_self, own_newB_self, setB_setB, List.getElem?_toArray, List.getElem?_cons_zero, List.getElem?_cons_succ, List.length_cons, List.length_nil, List.all_cons, List.all_nil, isCell_int, isCell_bool, isCell_ptr, isCell_slice, isCell_func, Bool.and_true, Bool.and_self, and_self, if_true, List.size_toArray, and_true, true_and, Nat.reduceLeDiff, Nat.le_refl, Bool.not_true, Bool.not_false, Bool.true_and, Bool.false_and, Bool.and_false, Int.reduceBNe, Int.reduceBEq, Int.reduceLT, Int.reduceLE, decide_true, decide_false, bin_add, w6]
              exact ⟨mk K7 _ hI7 (hE6.trans e7) (e7.own t7 hk6) (by rw [if_pos hpair]), by show _ < _; omega⟩
            · try simp only [bnd_some, brV_t, brV_f, brG_t, brG_f, newE_u, pickE_t, pickE_f, nilV_p, faV_p, cells_int, cells_bool, cells_ptr, cells_slice, cells_func, cells_agg, bin_eql, bin_neq, bin_lss, bin_leq, bin_gtr, bin_geq, bin_eqlb, bin_neqb, bin_eqlp, bin_eqlp0, bin_neqp, bin_neqp0, bin_eqls, bin_eqls0, un_not, un_neg, len_s, cap_s, ex_t, cv_i, callV_f, Option.bind_some, Option.map_some, Nat.zero_add, Nat.add_zero, Nat.reduceAdd, Nat.reduceMul, size_newB, size_setB, blk_newB_self, own_newB_self, setB_setB, List.getElem?_toArray, List.getElem?_cons_zero, List.getElem?_cons_succ, List.length_cons, List.length_nil, List.all_cons, List.all_nil, isCell_int, isCell_bool, isCell_ptr, isCell_slice, isCell_func, Bool.and_true, Bool.and_self, and_self, if_true, List.size_toArray, and_true, true_and, Nat.reduceLeDiff, Nat.le_refl, Bool.not_true, Bool.not_false, Bool.true_and, Bool.false_and, Bool.and_false, Int.reduceBNe, Int.reduceBEq, Int.reduceLT, Int.reduceLE, decide_true, decide_false, z48_g41]
              try simp only [bnd_some, brV_t, brV_f, brG_t, brG_f, newE_u, pickE_t, pickE_f, nilV_p, faV_p, cells_int, cells_bool, cells_ptr, cells_slice, cells_func, cells_agg, bin_eql, bin_neq, bin_lss, bin_leq, bin_gtr, bin_geq, bin_eqlb, bin_neqb, bin_eqlp, bin_eqlp0, bin_neqp, bin_neqp0, bin_eqls, bin_eqls0, un_not, un_neg, len_s, cap_s, ex_t, cv_i, callV_f, Option.bind_some, Option.map_some, Nat.zero_add, Nat.add_zero, Nat.reduceAdd, Nat.reduceMul, size_newB, size_setB, blk_newB_self, own_newB_self, setB_setB, List.getElem?_toArray, List.getElem?_cons_zero, List.getElem?_cons_succ, List.length_cons, List.length_nil, List.all_cons, List.all_nil, isCell_int, isCell_bool, isCell_ptr, isCell_slice, isCell_func, Bool.and_true, Bool.and_self, and_self, if_true, List.size_toArray, and_true, true_and, Nat.reduceLeDiff, Nat.le_refl, Bool.not_true, Bool.not_false, Bool.true_and, Bool.false_and, Bool.and_false, Int.reduceBNe, Int.reduceBEq, Int.reduceLT, Int.reduceLE, decide_true, decide_false, bin_add, w6]
              exact ⟨noK K6 (e5.trans e6) (by unfold pairOK; rw [c4]; simp), by show _ < _; omega⟩
          · try simp only [bnd_some, brV_t, brV_f, brG_t, brG_f, newE_u, pickE_t, pickE_f, nilV_p, faV_p, cells_int, cells_bool, cells_ptr, cells_slice, cells_func, cells_agg, bin_eql, bin_neq, bin_lss, bin_leq, bin_gtr, bin_geq, bin_eqlb, bin_neqb, bin_eqlp, bin_eqlp0, bin_neqp, bin_neqp0, bin_eqls, bin_eqls0, un_not, un_neg, len_s, cap_s, ex_t, cv_i, callV_f, Option.bind_some, Option.map_some, Nat.zero_add, Nat.add_zero, Nat.reduceAdd, Nat.reduceMul, size_newB, size_setB, blk_newB_self, own_newB_self, setB_setB, List.getElem?_toArray, List.getElem?_cons_zero, List.getElem?_cons_succ, List.length_cons, List.length_nil, List.all_cons, List.all_nil, isCell_int, isCell_bool, isCell_ptr, isCell_slice, isCell_func, Bool.and_true, Bool.and_self, and_self, if_true, List.size_toArray, and_true, true_and, Nat.reduceLeDiff, Nat.le_refl, Bool.not_true, Bool.not_false, Bool.true_and, Bool.false_and, Bool.and_false, Int.reduceBNe, Int.reduceBEq, Int.reduceLT, Int.reduceLE, decide_true, decide_false, z48_g41]
            try simp only [bnd_some, brV_t, brV_f, brG_t, brG_f, newE_u, pickE_t, pickE_f, nilV_p, faV_p, cells_int, cells_bool, cells_ptr, cells_slice, cells_func, cells_agg, bin_eql, bin_neq, bin_lss, bin_leq, bin_gtr, bin_geq, bin_eqlb, bin_neqb, bin_eqlp, bin_eqlp0, bin_neqp, bin_neqp0, bin_eqls, bin_eqls0, un_not, un_neg, len_s, cap_s, ex_t, cv_i, callV_f, Option.bind_some, Option.map_some, Nat.zero_add, Nat.add_zero, Nat.reduceAdd, Nat.reduceMul, size_newB, size_setB, blk_newB_self, own_newB_self, setB_setB, List.getElem?_toArray, List.getElem?_cons_zero, List.getElem?_cons_succ, List.length_cons, List.length_nil, List.all_cons, List.all_nil, isCell_int, isCell_bool, isCell_ptr, isCell_slice, isCell_func, Bool.and_true, Bool.and_self, and_self, if_true, List.size_toArray, and_true, true_and, Nat.reduceLeDiff, Nat.le_refl, Bool.not_true, Bool.not_false, Bool.true_and, Bool.false_and, Bool.and_false, Int.reduceBNe, Int.reduceBEq, Int.reduceLT, Int.reduceLE, decide_true, decide_false, bin_add, w6]
            exact ⟨noK K5 e5 (by unfold pairOK; rw [decide_eq_false c3]; simp), by show _ < _; omega⟩
        · try simp only [bnd_some, brV_t, brV_f, brG_t, brG_f, newE_u, pickE_t, pickE_f, nilV_p, faV_p, cells_int, cells_bool, cells_ptr, cells_slice, cells_func, cells_agg, bin_eql, bin_neq, bin_lss, bin_leq, bin_gtr, bin_geq, bin_eqlb, bin_neqb, bin_eqlp, bin_eqlp0, bin_neqp, bin_neqp0, bin_eqls, bin_eqls0, un_not, un_neg, len_s, cap_s, ex_t, cv_i, callV_f, Option.bind_some, Option.map_some, Nat.zero_add, Nat.add_zero, Nat.reduceAdd, Nat.reduceMul, size_newB, size_setB, blk_newB_self, own_newB_self, setB_setB, List.getElem?_toArray, List.getElem?_cons_zero, List.getElem?_cons_succ, List.length_cons, List.length_nil, List.all_cons, List.all_nil, isCell_int, isCell_bool, isCell_ptr, isCell_slice, isCell_func, Bool.and_true, Bool.and_self, and_self, if_true, List.size_toArray, and_true, true_and, Nat.reduceLeDiff, Nat.le_refl, Bool.not_true, Bool.not_false, Bool.true_and, Bool.false_and, Bool.and_false, Int.reduceBNe, Int.reduceBEq, Int.reduceLT, Int.reduceLE, decide_true, decide_false, z48_g41]
          try simp only [bnd_some, brV_t, brV_f, brG_t, brG_f, newE_u, pickE_t, pickE_f, nilV_p, faV_p, cells_int, cells_bool, cells_ptr, cells_slice, cells_func, cells_agg, bin_eql, bin_neq, bin_lss, bin_leq, bin_gtr, bin_geq, bin_eqlb, bin_neqb, bin_eqlp, bin_eqlp0, bin_neqp, bin_neqp0, bin_eqls, bin_eqls0, un_not, un_neg, len_s, cap_s, ex_t, cv_i, callV_f, Option.bind_some, Option.map_some, Nat.zero_add, Nat.add_zero, Nat.reduceAdd, Nat.reduceMul, size_newB, size_setB, blk_newB_self, own_newB_self, setB_setB, List.getElem?_toArray, List.getElem?_cons_zero, List.getElem?_cons_succ, List.length_cons, List.length_nil, List.all_cons, List.all_nil, isCell_int, isCell_bool, isCell_ptr, isCell_slice, isCell_func, Bool.and_true, Bool.and_self, and_self, if_true, List.size_toArray, and_true, true_and, Nat.reduceLeDiff, Nat.le_refl, Bool.not_true, Bool.not_false, Bool.true_and, Bool.false_and, Bool.and_false, Int.reduceBNe, Int.reduceBEq, Int.reduceLT, Int.reduceLE, decide_true, decide_false, bin_add, w6]
          exact ⟨noK K5 e5 (by unfold pairOK; rw [c2]; simp), by show _ < _; omega⟩
      · try simp only [bnd_some, brV_t, brV_f, brG_t, brG_f, newE_u, pickE_t, pickE_f, nilV_p, faV_p, cells_int, cells_bool, cells_ptr, cells_slice, cells_func, cells_agg, bin_eql, bin_neq, bin_lss, bin_leq, bin_gtr, bin_geq, bin_eqlb, bin_neqb, bin_eqlp, bin_eqlp0, bin_neqp, bin_neqp0, bin_eqls, bin_eqls0, un_not, un_neg, len_s, cap_s, ex_t, cv_i, callV_f, Option.bind_some, Option.map_some, Nat.zero_add, Nat.add_zero, Nat.reduceAdd, Nat.reduceMul, size_newB, size_setB, blk_newB_self, own_newB_self, setB_setB, List.getElem?_toArray, List.getElem?_cons_zero, List.getElem?_cons_succ, List.length_cons, List.length_nil, List.all_cons, List.all_nil, isCell_int, isCell_bool, isCell_ptr, isCell_slice, isCell_func, Bool.and_true, Bool.and_self, and_self, if_true, List.size_toArray, and_true, true_and, Nat.reduceLeDiff, Nat.le_refl, Bool.not_true, Bool.not_false, Bool.true_and, Bool.false_and, Bool.and_false, Int.reduceBNe, Int.reduceBEq, Int.reduceLT, Int.reduceLE, decide_true, decide_false, z48_g41]
        try simp only [bnd_some, brV_t, brV_f, brG_t, brG_f, newE_u, pickE_t, pickE_f, nilV_p, faV_p, cells_int, cells_bool, cells_ptr, cells_slice, cells_func, cells_agg, bin_eql, bin_neq, bin_lss, bin_leq, bin_gtr, bin_geq, bin_eqlb, bin_neqb, bin_eqlp, bin_eqlp0, bin_neqp, bin_neqp0, bin_eqls, bin_eqls0, un_not, un_neg, len_s, cap_s, ex_t, cv_i, callV_f, Option.bind_some, Option.map_some, Nat.zero_add, Nat.add_zero, Nat.reduceAdd, Nat.reduceMul, size_newB, size_setB, blk_newB_self, own_newB_self, setB_setB, List.getElem?_toArray, List.getElem?_cons_zero, List.getElem?_cons_succ, List.length_cons, List.length_nil, List.all_cons, List.all_nil, isCell_int, isCell_bool, isCell_ptr, isCell_slice, isCell_func, Bool.and_true, Bool.and_self, and_self, if_true, List.size_toArray, and_true, true_and, Nat.reduceLeDiff, Nat.le_refl, Bool.not_true, Bool.not_false, Bool.true_and, Bool.false_and, Bool.and_false, Int.reduceBNe, Int.reduceBEq, Int.reduceLT, Int.reduceLE, decide_true, decide_false, bin_add, w6]
        exact ⟨noK K4 (Ext.refl _ _) (by unfold pairOK; rw [c1]; simp), by show _ < _; omega⟩
    · have hj' : j = (l.drop (i + 1)).length := by omega
      subst hj'
      rw [List.drop_length] at hfin'
      simp only [z48_g42]
      try simp only [bnd_some, brV_t, brV_f, brG_t, brG_f, newE_u, pickE_t, pickE_f, nilV_p, faV_p, cells_int, cells_bool, cells_ptr, cells_slice, cells_func, cells_agg, bin_eql, bin_neq, bin_lss, bin_leq, bin_gtr, bin_geq, bin_eqlb, bin_neqb, bin_eqlp, bin_eqlp0, bin_neqp, bin_neqp0, bin_eqls, bin_eqls0, un_not, un_neg, len_s, cap_s, ex_t, cv_i, callV_f, Option.bind_some, Option.map_some, Nat.zero_add, Nat.add_zero, Nat.reduceAdd, Nat.reduceMul, size_newB, size_setB, blk_newB_self, own_newB_self, setB_setB, List.getElem?_toArray, List.getElem?_cons_zero, List.getElem?_cons_succ, List.length_cons, List.length_nil, List.all_cons, List.all_nil, isCell_int, isCell_bool, isCell_ptr, isCell_slice, isCell_func, Bool.and_true, Bool.and_self, and_self, if_true, List.size_toArray, and_true, true_and, Nat.reduceLeDiff, Nat.le_refl, Bool.not_true, Bool.not_false, Bool.true_and, Bool.false_and, Bool.and_false, Int.reduceBNe, Int.reduceBEq, Int.reduceLT, Int.reduceLE, decide_true, decide_false, bin_add, w5]
      refine ⟨⟨i + 1, s', rfl, by omega, hIs', hE2, ?_⟩, by show _ < _; omega⟩
      rw [← hfin, List.drop_eq_getElem_cons hi']
      show _ = outerF g _ (l.drop (i + 1)) (innerF g _ l[i] (l.drop (i + 1)) s)
      rw [← hfin']; rfl
  · have : i = l.length := by omega
    subst this
    rw [List.drop_length] at hfin
    try simp only [bnd_some, brV_t, brV_f, brG_t, brG_f, newE_u, pickE_t, pickE_f, nilV_p, faV_p, cells_int, cells_bool, cells_ptr, cells_slice, cells_func, cells_agg, bin_eql, bin_neq, bin_lss, bin_leq, bin_gtr, bin_geq, bin_eqlb, bin_neqb, bin_eqlp, bin_eqlp0, bin_neqp, bin_neqp0, bin_eqls, bin_eqls0, un_not, un_neg, len_s, cap_s, ex_t, cv_i, callV_f, Option.bind_some, Option.map_some, Nat.zero_add, Nat.add_zero, Nat.reduceAdd, Nat.reduceMul, size_newB, size_setB, blk_newB_self, own_newB_self, setB_setB, List.getElem?_toArray, List.getElem?_cons_zero, List.getElem?_cons_succ, List.length_cons, List.length_nil, List.all_cons, List.all_nil, isCell_int, isCell_bool, isCell_ptr, isCell_slice, isCell_func, Bool.and_true, Bool.and_self, and_self, if_true, List.size_toArray, and_true, true_and, Nat.reduceLeDiff, Nat.le_refl, Bool.not_true, Bool.not_false, Bool.true_and, Bool.false_and, Bool.and_false, Int.reduceBNe, Int.reduceBEq, Int.reduceLT, Int.reduceLE, decide_true, decide_false]
    refine hR K ?_
    rw [← hfin]; exact hIs
end Go.Hc

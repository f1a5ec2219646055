/- Sets: Cut, and what reads. -/
import Derived.Test.YtbchcnmghcmaoaaS04E
set_option linter.unusedSimpArgs false
set_option linter.unusedVariables false
namespace Go.Hc
open Go

def hasR (rs : List Rng) (n : Int) : Bool := rs.any fun r => decide (r.1 ≤ n ∧ n ≤ r.2)
def atR (rs : List Rng) (n : Int) : Option Rng := rs.find? fun r => decide (r.1 ≤ n ∧ n ≤ r.2)
def okN (n : Int) : Prop := 0 ≤ n ∧ n ≤ 9007199254740991
instance (n : Int) : Decidable (okN n) := inferInstanceAs (Decidable (0 ≤ n ∧ n ≤ 9007199254740991))
def nextR (rs : List Rng) (n : Int) : Int := if okN n then (let m := match atR rs n with | some x => x.2 + 1 | none => n; if okN m then m else -1) else -1
def maxR (rs : List Rng) : Int := match rs.getLast? with | some r => r.2 | none => -1
def minR (rs : List Rng) : Int := match rs.head? with | some r => r.1 | none => -1
def cutE (b : Int) : Int := if okN b then 0 else 2
def cutS (rs : List Rng) (b : Int) : List Rng := if okN b then cutL rs b else rs
theorem hasR_iff {rs : List Rng} {n : Int} : hasR rs n = true ↔ Mem rs n := by
  simp [hasR, Mem, List.any_eq_true]
theorem hasR_at {rs : List Rng} {n : Int} : hasR rs n = (atR rs n).isSome := by
  unfold hasR atR
  rw [Bool.eq_iff_iff, List.find?_isSome, List.any_eq_true]
theorem atR_low {rs : List Rng} (h : Okr rs) {n : Int} : atR rs n = if hl : lowI n rs < rs.length then (if (rs[lowI n rs]).1 ≤ n then some rs[lowI n rs] else none) else none := by
  have before : ∀ i (hi : i < rs.length), i < lowI n rs → ¬ (rs[i].1 ≤ n ∧ n ≤ rs[i].2) := fun i hi h1 h2 => by have := lowI_lt hi h1; omega
  have none_of : (∀ i (hi : i < rs.length), ¬ (rs[i].1 ≤ n ∧ n ≤ rs[i].2)) → atR rs n = none := fun hh => by
    unfold atR
    rw [List.find?_eq_none]
    intro x hx
    obtain ⟨i, hi, rfl⟩ := List.getElem_of_mem hx
    simpa using hh i hi
  split
  · rename_i hl
    have hge := lowI_ge h hl (Nat.le_refl _)
    split
    · rename_i hle
      have hs : (atR rs n).isSome := by
        unfold atR; rw [List.find?_isSome]
        exact ⟨_, List.getElem_mem hl, by simp; exact ⟨hle, hge⟩⟩
      obtain ⟨x, hx⟩ := Option.isSome_iff_exists.1 hs
      rw [hx]
      have hm := List.mem_of_find?_eq_some hx
      have hp := List.find?_some hx
      simp only [decide_eq_true_eq] at hp
      obtain ⟨i, hi, rfl⟩ := List.getElem_of_mem hm
      congr 1
      rcases Nat.lt_trichotomy i (lowI n rs) with h1 | h1 | h1
      · exact absurd hp (before i hi h1)
      · subst h1; rfl
      · have := h.lt h1 hi; omega
    · rename_i hgt
      refine none_of fun i hi hh => ?_
      rcases Nat.lt_or_ge i (lowI n rs) with h1 | h1
      · exact before i hi h1 hh
      · have := (h.le2 h1 hi).2; omega
  · rename_i hl
    exact none_of fun i hi hh => before i hi (by omega) hh

/-- one cell of a row is written -/
theorem blk_cell {sz : Nat} {H : Heap} {b cap i o : Nat} {f : Nat → Array Value} {l : List Value} (hb : Blk sz H b cap f) (hi : i < cap) (ho : o + l.length ≤ sz) (hc : l.all isCell = true) :
    ∃ H', wrA H b (i * sz + o) l = some H' ∧ Ext [b] H H' ∧ H'.size = H.size ∧ Blk sz H' b cap (fun k => if k = i then splice (f i) o l else f k) := by
  obtain ⟨c, hc1, hr⟩ := hb
  have h1 := row_lt (sz := sz) hi
  have h2 := hr.size
  rw [wrA_b, hc1, Option.bind_some, if_pos ⟨by omega, hc⟩]
  exact ⟨_, rfl, (Ext.refl _ _).setB _ _ (Or.inl (by simp)), size_setB _ _ _, _, own_setB_same hc1, hr.setC hi ho⟩

def optR (o : Option Rng) : Value := .tuple #[.agg (rngC (o.getD (0, 0))), .bool o.isSome]
theorem at_ev' {H : Heap} {s : Nat} {room : Nat} {rs : List Rng} {T : List Nat} {n : Int} {R : Value → Heap → Prop} (h : SetH H s room rs T)
    (hR : ∀ H', Ext [] H H' → R (optR (atR rs n)) H') : EvF P N.span_Set_at #[ptr s, iv n] H R := by
  refine span_Set_at_ev _ _ _ _ ?_
  have en : ∀ t c, Ext [] H (newB H t c) := fun t c => (Ext.refl _ _).newB t c
  simp only [span_Set_at_g19, span_Set_at_g20, span_Set_at_g21, span_Set_at_g22, span_Set_at_g23, span_Set_at_g24, span_Set_at_g25, span_Set_at]
  try simp only [bnd_some, brV_t, brV_f, brG_t, brG_f, newE_u, pickE_t, pickE_f, nilV_p, faV_p, ldE_f, ldE_t, rdA_u, stE_p, cells_int, cells_bool, cells_ptr, cells_slice, cells_func, cells_agg, bin_add, bin_sub, bin_mul, bin_eql, bin_neq, bin_lss, bin_leq, bin_gtr, bin_geq, bin_eqlb, bin_neqb, bin_eqlp, bin_eqlp0, bin_neqp, bin_neqp0, bin_eqls, bin_eqls0, un_not, un_neg, len_s, cap_s, ex_t, cv_i, callV_f, Option.bind_some, Option.map_some, Nat.zero_add, Nat.add_zero, Nat.reduceAdd, Nat.reduceMul, size_newB, size_setB, blk_newB_self, own_newB_self, wrA_b, own_setB_m, blk_setB_m, setB_setB, List.getElem?_toArray, List.getElem?_cons_zero, List.getElem?_cons_succ, List.length_cons, List.length_nil, List.all_cons, List.all_nil, isCell_int, isCell_bool, isCell_ptr, isCell_slice, isCell_func, Bool.and_true, Bool.and_self, and_self, if_true, List.size_toArray, and_true, true_and, Nat.reduceLeDiff, Nat.le_refl, Bool.not_true, Bool.not_false, Bool.true_and, Bool.false_and, Bool.and_false, Int.reduceBNe, Int.reduceBEq, Int.reduceLT, Int.reduceLE, decide_true, decide_false, rng0]
  generalize hK : newB H _ (rngC (0, 0)) = K
  have e0 : Ext [] H K := by rw [← hK]; exact en _ _
  have q1 : own K H.size = some (rngC (0, 0)) := by rw [← hK, own_newB_self]
  have h0 := h.ext e0 (by simp)
  obtain ⟨v, T', ho, hl, rfl, hn⟩ := h0.rep
  refine setnone_ev ho h.hroom.1 ?_
  try simp only [bnd_some, brV_t, brV_f, brG_t, brG_f, newE_u, pickE_t, pickE_f, nilV_p, faV_p, ldE_f, ldE_t, rdA_u, stE_p, cells_int, cells_bool, cells_ptr, cells_slice, cells_func, cells_agg, bin_add, bin_sub, bin_mul, bin_eql, bin_neq, bin_lss, bin_leq, bin_gtr, bin_geq, bin_eqlb, bin_neqb, bin_eqlp, bin_eqlp0, bin_neqp, bin_neqp0, bin_eqls, bin_eqls0, un_not, un_neg, len_s, cap_s, ex_t, cv_i, callV_f, Option.bind_some, Option.map_some, Nat.zero_add, Nat.add_zero, Nat.reduceAdd, Nat.reduceMul, size_newB, size_setB, blk_newB_self, own_newB_self, wrA_b, own_setB_m, blk_setB_m, setB_setB, List.getElem?_toArray, List.getElem?_cons_zero, List.getElem?_cons_succ, List.length_cons, List.length_nil, List.all_cons, List.all_nil, isCell_int, isCell_bool, isCell_ptr, isCell_slice, isCell_func, Bool.and_true, Bool.and_self, and_self, if_true, List.size_toArray, and_true, true_and, Nat.reduceLeDiff, Nat.le_refl, Bool.not_true, Bool.not_false, Bool.true_and, Bool.false_and, Bool.and_false, Int.reduceBNe, Int.reduceBEq, Int.reduceLT, Int.reduceLE, decide_true, decide_false]
  refine first_ev h0 fun H1 e1 => ?_
  have ho1 := e1.own ho (by simp)
  have hl1 := hl.ext e1 (by simp)
  have q2 := e1.own q1 (by simp)
  have e01 := e0.trans e1
  have eset : ∀ c, Ext [] H (setB H1 H.size c) := fun c => e01.setB _ _ (Or.inr (Nat.le_refl _))
  try simp only [bnd_some, brV_t, brV_f, brG_t, brG_f, newE_u, pickE_t, pickE_f, nilV_p, faV_p, ldE_f, ldE_t, rdA_u, stE_p, cells_int, cells_bool, cells_ptr, cells_slice, cells_func, cells_agg, bin_add, bin_sub, bin_mul, bin_eql, bin_neq, bin_lss, bin_leq, bin_gtr, bin_geq, bin_eqlb, bin_neqb, bin_eqlp, bin_eqlp0, bin_neqp, bin_neqp0, bin_eqls, bin_eqls0, un_not, un_neg, len_s, cap_s, ex_t, cv_i, callV_f, Option.bind_some, Option.map_some, Nat.zero_add, Nat.add_zero, Nat.reduceAdd, Nat.reduceMul, size_newB, size_setB, blk_newB_self, own_newB_self, wrA_b, own_setB_m, blk_setB_m, setB_setB, List.getElem?_toArray, List.getElem?_cons_zero, List.getElem?_cons_succ, List.length_cons, List.length_nil, List.all_cons, List.all_nil, isCell_int, isCell_bool, isCell_ptr, isCell_slice, isCell_func, Bool.and_true, Bool.and_self, and_self, if_true, List.size_toArray, and_true, true_and, Nat.reduceLeDiff, Nat.le_refl, Bool.not_true, Bool.not_false, Bool.true_and, Bool.false_and, Bool.and_false, Int.reduceBNe, Int.reduceBEq, Int.reduceLT, Int.reduceLE, decide_true, decide_false, own_blk ho1, setC_1, hl1.len]
  have hat := atR_low h.ok (n := n)
  have noneR : atR rs n = none → R (optR none) (setB H1 H.size (rngC (0, 0))) := fun e => by
    have := hR _ (eset (rngC (0, 0))); rw [e] at this; exact this
  refine brV_i (fun heq => ?_) (fun hne => ?_)
  · have heq : ¬ lowI n rs < rs.length := by
      have h3 : (lowI n rs : Int) = rs.length := by simpa using heq
      omega
    rw [dif_neg heq] at hat
    try simp only [bnd_some, brV_t, brV_f, brG_t, brG_f, newE_u, pickE_t, pickE_f, nilV_p, faV_p, ldE_f, ldE_t, rdA_u, stE_p, cells_int, cells_bool, cells_ptr, cells_slice, cells_func, cells_agg, bin_add, bin_sub, bin_mul, bin_eql, bin_neq, bin_lss, bin_leq, bin_gtr, bin_geq, bin_eqlb, bin_neqb, bin_eqlp, bin_eqlp0, bin_neqp, bin_neqp0, bin_eqls, bin_eqls0, un_not, un_neg, len_s, cap_s, ex_t, cv_i, callV_f, Option.bind_some, Option.map_some, Nat.zero_add, Nat.add_zero, Nat.reduceAdd, Nat.reduceMul, size_newB, size_setB, blk_newB_self, own_newB_self, wrA_b, own_setB_m, blk_setB_m, setB_setB, List.getElem?_toArray, List.getElem?_cons_zero, List.getElem?_cons_succ, List.length_cons, List.length_nil, List.all_cons, List.all_nil, isCell_int, isCell_bool, isCell_ptr, isCell_slice, isCell_func, Bool.and_true, Bool.and_self, and_self, if_true, List.size_toArray, and_true, true_and, Nat.reduceLeDiff, Nat.le_refl, Bool.not_true, Bool.not_false, Bool.true_and, Bool.false_and, Bool.and_false, Int.reduceBNe, Int.reduceBEq, Int.reduceLT, Int.reduceLE, decide_true, decide_false, own_blk q2, q2, rngC_g, rngC_s, rngC_l, rngC_a, rngC_w]
    exact noneR hat
  · have hlt : lowI n rs < rs.length := by
      have h3 : (lowI n rs : Int) ≠ rs.length := by simpa using hne
      have := fi_le (fun r => decide (r.2 < n)) rs
      simp only [lowI] at *; omega
    rw [dif_pos hlt] at hat
    obtain ⟨b, o, c, i1, i2, i3, i4⟩ := hl1.show.ix (by decide) hlt (rfl : (lowI n rs : Int) = (lowI n rs : Nat))
    have i1' : ixSV 2 v (iv (lowI n rs)) = _ := i1
    have i5 : c[o]? = some (iv (rs[lowI n rs]).1) := i3 0 (by decide)
    have i4' : ldE true 2 (.pointer (some ⟨b, o, none⟩)) H1 = some (.agg (rngC rs[lowI n rs])) := i4
    have i6 : getC c o 2 = some (rngC rs[lowI n rs]) := by
      have h3 := i4'
      rw [ldE_t, rdA_u, i2, Option.bind_some] at h3
      cases hg : getC c o 2 with
      | none => rw [hg] at h3; cases h3
      | some x => rw [hg] at h3; simp at h3; rw [h3]
    try simp only [bnd_some, brV_t, brV_f, brG_t, brG_f, newE_u, pickE_t, pickE_f, nilV_p, faV_p, cells_int, cells_bool, cells_ptr, cells_slice, cells_func, cells_agg, bin_eql, bin_neq, bin_lss, bin_leq, bin_gtr, bin_geq, bin_eqlb, bin_neqb, bin_eqlp, bin_eqlp0, bin_neqp, bin_neqp0, bin_eqls, bin_eqls0, un_not, un_neg, len_s, cap_s, ex_t, cv_i, callV_f, Option.bind_some, Option.map_some, Nat.zero_add, Nat.add_zero, Nat.reduceAdd, Nat.reduceMul, size_newB, size_setB, blk_newB_self, own_newB_self, setB_setB, List.getElem?_toArray, List.getElem?_cons_zero, List.getElem?_cons_succ, List.length_cons, List.length_nil, List.all_cons, List.all_nil, isCell_int, isCell_bool, isCell_ptr, isCell_slice, isCell_func, Bool.and_true, Bool.and_self, and_self, if_true, List.size_toArray, and_true, true_and, Nat.reduceLeDiff, Nat.le_refl, Bool.not_true, Bool.not_false, Bool.true_and, Bool.false_and, Bool.and_false, Int.reduceBNe, Int.reduceBEq, Int.reduceLT, Int.reduceLE, decide_true, decide_false, ldE_f, i1', i2, i5]
    refine brV_d (fun hgt => ?_) (fun hle => ?_)
    · rw [if_neg (by omega)] at hat
      try simp only [bnd_some, brV_t, brV_f, brG_t, brG_f, newE_u, pickE_t, pickE_f, nilV_p, faV_p, ldE_f, ldE_t, rdA_u, stE_p, cells_int, cells_bool, cells_ptr, cells_slice, cells_func, cells_agg, bin_add, bin_sub, bin_mul, bin_eql, bin_neq, bin_lss, bin_leq, bin_gtr, bin_geq, bin_eqlb, bin_neqb, bin_eqlp, bin_eqlp0, bin_neqp, bin_neqp0, bin_eqls, bin_eqls0, un_not, un_neg, len_s, cap_s, ex_t, cv_i, callV_f, Option.bind_some, Option.map_some, Nat.zero_add, Nat.add_zero, Nat.reduceAdd, Nat.reduceMul, size_newB, size_setB, blk_newB_self, own_newB_self, wrA_b, own_setB_m, blk_setB_m, setB_setB, List.getElem?_toArray, List.getElem?_cons_zero, List.getElem?_cons_succ, List.length_cons, List.length_nil, List.all_cons, List.all_nil, isCell_int, isCell_bool, isCell_ptr, isCell_slice, isCell_func, Bool.and_true, Bool.and_self, and_self, if_true, List.size_toArray, and_true, true_and, Nat.reduceLeDiff, Nat.le_refl, Bool.not_true, Bool.not_false, Bool.true_and, Bool.false_and, Bool.and_false, Int.reduceBNe, Int.reduceBEq, Int.reduceLT, Int.reduceLE, decide_true, decide_false, own_blk q2, q2, rngC_g, rngC_s, rngC_l, rngC_a, rngC_w]
      exact noneR hat
    · rw [if_pos (by omega)] at hat
      try simp only [bnd_some, brV_t, brV_f, brG_t, brG_f, newE_u, pickE_t, pickE_f, nilV_p, faV_p, cells_int, cells_bool, cells_ptr, cells_slice, cells_func, cells_agg, bin_eql, bin_neq, bin_lss, bin_leq, bin_gtr, bin_geq, bin_eqlb, bin_neqb, bin_eqlp, bin_eqlp0, bin_neqp, bin_neqp0, bin_eqls, bin_eqls0, un_not, un_neg, len_s, cap_s, ex_t, cv_i, callV_f, Option.bind_some, Option.map_some, Nat.zero_add, Nat.add_zero, Nat.reduceAdd, Nat.reduceMul, size_newB, size_setB, blk_newB_self, own_newB_self, setB_setB, List.getElem?_toArray, List.getElem?_cons_zero, List.getElem?_cons_succ, List.length_cons, List.length_nil, List.all_cons, List.all_nil, isCell_int, isCell_bool, isCell_ptr, isCell_slice, isCell_func, Bool.and_true, Bool.and_self, and_self, if_true, List.size_toArray, and_true, true_and, Nat.reduceLeDiff, Nat.le_refl, Bool.not_true, Bool.not_false, Bool.true_and, Bool.false_and, Bool.and_false, Int.reduceBNe, Int.reduceBEq, Int.reduceLT, Int.reduceLE, decide_true, decide_false, ldE_f, stE_p, own_blk ho1, setC_1, i1', i2, i6, wrA_b, q2, rngC_s, rngC_l, rngC_a, rngC_w, ldE_t, rdA_u, own_blk (own_setB_same q2), rngC_g]
      have := hR _ (eset (rngC rs[lowI n rs]))
      rw [hat] at this; exact this
end Go.Hc

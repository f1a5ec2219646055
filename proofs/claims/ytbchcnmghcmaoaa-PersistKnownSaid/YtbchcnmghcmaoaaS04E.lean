/- Sets: Add. -/
import Derived.Test.YtbchcnmghcmaoaaS04D
set_option linter.unusedSimpArgs false
set_option linter.unusedVariables false
namespace Go.Hc
open Go

def badR (lo hi : Int) : Prop := ¬ (0 ≤ lo ∧ lo ≤ 9007199254740991) ∨ ¬ (0 ≤ hi ∧ hi ≤ 9007199254740991) ∨ hi < lo
instance (lo hi : Int) : Decidable (badR lo hi) := inferInstanceAs (Decidable (¬ (0 ≤ lo ∧ lo ≤ 9007199254740991) ∨ ¬ (0 ≤ hi ∧ hi ≤ 9007199254740991) ∨ hi < lo))
def addE (room : Nat) (rs : List Rng) (lo hi : Int) : Int := if badR lo hi then 2 else if room < (addL rs lo hi).length then 5 else 0
def addS (room : Nat) (rs : List Rng) (lo hi : Int) : List Rng := if addE room rs lo hi = 0 then addL rs lo hi else rs
theorem min_iv {a b : Int} : foldV min2V (iv a) [iv b] = some (iv (min a b)) := by
  simp only [foldV, min2V]; congr 2; omega
theorem max_iv {a b : Int} : foldV max2V (iv a) [iv b] = some (iv (max a b)) := by
  simp only [foldV, max2V]; congr 2; omega
theorem Add_s45_t {x1 x3 x5 : Value} {H : Heap} {R : Value → Heap → Prop} (hR : R (iv 2) H) : z21_s45 x1 x3 x5 (.bool true) R H := by
  simp only [z21_s45, z21_g46]
  try simp only [bnd_some, brV_t, brV_f, brG_t, brG_f, newE_u, pickE_t, pickE_f, nilV_p, faV_p, ldE_f, ldE_t, rdA_u, stE_p, cells_int, cells_bool, cells_ptr, cells_slice, cells_func, cells_agg, bin_add, bin_sub, bin_mul, bin_eql, bin_neq, bin_lss, bin_leq, bin_gtr, bin_geq, bin_eqlb, bin_neqb, bin_eqlp, bin_eqlp0, bin_neqp, bin_neqp0, bin_eqls, bin_eqls0, un_not, un_neg, len_s, cap_s, ex_t, cv_i, callV_f, Option.bind_some, Option.map_some, Nat.zero_add, Nat.add_zero, Nat.reduceAdd, Nat.reduceMul, size_newB, size_setB, blk_newB_self, own_newB_self, wrA_b, own_setB_m, blk_setB_m, setB_setB, List.getElem?_toArray, List.getElem?_cons_zero, List.getElem?_cons_succ, List.length_cons, List.length_nil, List.all_cons, List.all_nil, isCell_int, isCell_bool, isCell_ptr, isCell_slice, isCell_func, Bool.and_true, Bool.and_self, and_self, if_true, List.size_toArray, and_true, true_and, Nat.reduceLeDiff, Nat.le_refl, Bool.not_true, Bool.not_false, Bool.true_and, Bool.false_and, Bool.and_false, Int.reduceBNe, Int.reduceBEq, Int.reduceLT, Int.reduceLE, decide_true, decide_false]; exact hR
theorem Add_s45_f {H : Heap} {s a a2 : Nat} {room : Nat} {rs : List Rng} {T : List Nat} {lo hi : Int} {R : Value → Heap → Prop} (h : SetH H s room rs T) (ha : own H a = some #[ptr s]) (ha2 : own H a2 = some #[iv hi]) (haT : a ∉ T)
    (hg : ¬ badR lo hi) (hfull : room < (addL rs lo hi).length → ∀ H', Ext [] H H' → R (iv 5) H')
    (hR : (addL rs lo hi).length ≤ room → ∀ H' T', Ext T H H' → (∀ b ∈ T', b ∈ T ∨ H.size ≤ b) → SetV H' s room (addL rs lo hi) T' → R (iv 0) H') :
    z21_s45 (iv lo) (ptr a) (ptr a2) (.bool false) R H := by
  have hg' : 0 ≤ lo ∧ lo ≤ hi ∧ hi ≤ 9007199254740991 := by
    simp only [badR] at hg; omega
  have w1 : IntKind.i64.wrap (lo - 1) = lo - 1 := wrap_in (by omega)
  have hlen := addL_len h.ok hg'.2.1
  have hft := low_top h.ok hg'.2.1
  have ht : topI (hi + 1) rs ≤ rs.length := fi_le _ _
  simp only [z21_s45, z21_g47, z21_g48, z21_g49, z21_g56, z21_g57]
  try simp only [bnd_some, brV_t, brV_f, brG_t, brG_f, newE_u, pickE_t, pickE_f, nilV_p, faV_p, ldE_f, ldE_t, rdA_u, stE_p, cells_int, cells_bool, cells_ptr, cells_slice, cells_func, cells_agg, bin_add, bin_sub, bin_mul, bin_eql, bin_neq, bin_lss, bin_leq, bin_gtr, bin_geq, bin_eqlb, bin_neqb, bin_eqlp, bin_eqlp0, bin_neqp, bin_neqp0, bin_eqls, bin_eqls0, un_not, un_neg, len_s, cap_s, ex_t, cv_i, callV_f, Option.bind_some, Option.map_some, Nat.zero_add, Nat.add_zero, Nat.reduceAdd, Nat.reduceMul, size_newB, size_setB, blk_newB_self, own_newB_self, wrA_b, own_setB_m, blk_setB_m, setB_setB, List.getElem?_toArray, List.getElem?_cons_zero, List.getElem?_cons_succ, List.length_cons, List.length_nil, List.all_cons, List.all_nil, isCell_int, isCell_bool, isCell_ptr, isCell_slice, isCell_func, Bool.and_true, Bool.and_self, and_self, if_true, List.size_toArray, and_true, true_and, Nat.reduceLeDiff, Nat.le_refl, Bool.not_true, Bool.not_false, Bool.true_and, Bool.false_and, Bool.and_false, Int.reduceBNe, Int.reduceBEq, Int.reduceLT, Int.reduceLE, decide_true, decide_false, own_blk ha, w1]
  refine first_ev h fun H1 e1 => ?_
  have h1 := h.ext e1 (by simp)
  have ha1 := e1.own ha (by simp)
  have ha21 := e1.own ha2 (by simp)
  have ho1 := h1.rep
  obtain ⟨v, T', ho, hl, rfl, hn⟩ := ho1
  try simp only [bnd_some, brV_t, brV_f, brG_t, brG_f, newE_u, pickE_t, pickE_f, nilV_p, faV_p, ldE_f, ldE_t, rdA_u, stE_p, cells_int, cells_bool, cells_ptr, cells_slice, cells_func, cells_agg, bin_add, bin_sub, bin_mul, bin_eql, bin_neq, bin_lss, bin_leq, bin_gtr, bin_geq, bin_eqlb, bin_neqb, bin_eqlp, bin_eqlp0, bin_neqp, bin_neqp0, bin_eqls, bin_eqls0, un_not, un_neg, len_s, cap_s, ex_t, cv_i, callV_f, Option.bind_some, Option.map_some, Nat.zero_add, Nat.add_zero, Nat.reduceAdd, Nat.reduceMul, size_newB, size_setB, blk_newB_self, own_newB_self, wrA_b, own_setB_m, blk_setB_m, setB_setB, List.getElem?_toArray, List.getElem?_cons_zero, List.getElem?_cons_succ, List.length_cons, List.length_nil, List.all_cons, List.all_nil, isCell_int, isCell_bool, isCell_ptr, isCell_slice, isCell_func, Bool.and_true, Bool.and_self, and_self, if_true, List.size_toArray, and_true, true_and, Nat.reduceLeDiff, Nat.le_refl, Bool.not_true, Bool.not_false, Bool.true_and, Bool.false_and, Bool.and_false, Int.reduceBNe, Int.reduceBEq, Int.reduceLT, Int.reduceLE, decide_true, decide_false, own_blk ha1, own_blk ho, setC_1, hl.len]
  have hsm := h.few
  have hrm := h.hroom
  refine Search_ev (g := fun i => decide (hi + 1 < (rs.getD i (0, 0)).1)) (by omega) (fun i hi' Q hQ => ?_) (fun i j hij hj hgg => ?_) (fun k hk hka hkb => ?_)
  · try simp only [bnd_some, brV_t, brV_f, brG_t, brG_f, newE_u, pickE_t, pickE_f, nilV_p, faV_p, ldE_f, ldE_t, rdA_u, stE_p, cells_int, cells_bool, cells_ptr, cells_slice, cells_func, cells_agg, bin_add, bin_sub, bin_mul, bin_eql, bin_neq, bin_lss, bin_leq, bin_gtr, bin_geq, bin_eqlb, bin_neqb, bin_eqlp, bin_eqlp0, bin_neqp, bin_neqp0, bin_eqls, bin_eqls0, un_not, un_neg, len_s, cap_s, ex_t, cv_i, callV_f, Option.bind_some, Option.map_some, Nat.zero_add, Nat.add_zero, Nat.reduceAdd, Nat.reduceMul, size_newB, size_setB, blk_newB_self, own_newB_self, wrA_b, own_setB_m, blk_setB_m, setB_setB, List.getElem?_toArray, List.getElem?_cons_zero, List.getElem?_cons_succ, List.length_cons, List.length_nil, List.all_cons, List.all_nil, isCell_int, isCell_bool, isCell_ptr, isCell_slice, isCell_func, Bool.and_true, Bool.and_self, and_self, if_true, List.size_toArray, and_true, true_and, Nat.reduceLeDiff, Nat.le_refl, Bool.not_true, Bool.not_false, Bool.true_and, Bool.false_and, Bool.and_false, Int.reduceBNe, Int.reduceBEq, Int.reduceLT, Int.reduceLE, decide_true, decide_false, Array.toList_empty, List.nil_append, List.cons_append]
    refine z37_ev _ _ _ _ _ ?_
    obtain ⟨b, o, c, i1, i2, i3, i4⟩ := hl.show.ix (by decide) hi' (rfl : (i : Int) = i)
    have i1' : ixSV 2 v (iv i) = _ := i1
    have i5 : c[o]? = some (iv rs[i].1) := i3 0 (by decide)
    have w2 : IntKind.i64.wrap (hi + 1) = hi + 1 := wrap_in (by omega)
    simp only [z37_g5, z37_g6, span_Set_Add_1]
    try simp only [bnd_some, brV_t, brV_f, brG_t, brG_f, newE_u, pickE_t, pickE_f, nilV_p, faV_p, ldE_f, ldE_t, rdA_u, stE_p, cells_int, cells_bool, cells_ptr, cells_slice, cells_func, cells_agg, bin_add, bin_sub, bin_mul, bin_eql, bin_neq, bin_lss, bin_leq, bin_gtr, bin_geq, bin_eqlb, bin_neqb, bin_eqlp, bin_eqlp0, bin_neqp, bin_neqp0, bin_eqls, bin_eqls0, un_not, un_neg, len_s, cap_s, ex_t, cv_i, callV_f, Option.bind_some, Option.map_some, Nat.zero_add, Nat.add_zero, Nat.reduceAdd, Nat.reduceMul, size_newB, size_setB, blk_newB_self, own_newB_self, wrA_b, own_setB_m, blk_setB_m, setB_setB, List.getElem?_toArray, List.getElem?_cons_zero, List.getElem?_cons_succ, List.length_cons, List.length_nil, List.all_cons, List.all_nil, isCell_int, isCell_bool, isCell_ptr, isCell_slice, isCell_func, Bool.and_true, Bool.and_self, and_self, if_true, List.size_toArray, and_true, true_and, Nat.reduceLeDiff, Nat.le_refl, Bool.not_true, Bool.not_false, Bool.true_and, Bool.false_and, Bool.and_false, Int.reduceBNe, Int.reduceBEq, Int.reduceLT, Int.reduceLE, decide_true, decide_false, own_blk ha1, own_blk ha21, own_blk ho, setC_1, i1', i2, i5, w2]
    rw [getD_at hi'] at hQ; exact hQ
  · rw [getD_at (by omega)] at hgg
    rw [getD_at hj]
    have := (h.ok.le2 hij hj).2
    simp only [decide_eq_true_eq] at hgg ⊢; omega
  · have hkk : topI (hi + 1) rs = k := by
      refine fi_eq hk (fun i h h1 => ?_) (fun h => ?_)
      · have := hka i h1
        rw [getD_at h] at this
        simp only [decide_eq_false_iff_not] at this
        simp only [decide_eq_true_eq]; omega
      · have := hkb k (Nat.le_refl _) h
        rw [getD_at h] at this
        simp only [decide_eq_true_eq] at this
        simp only [decide_eq_false_iff_not]; omega
    subst hkk
    clear hka hkb hk
    have en : ∀ t c c', Ext [] H1 (setB (newB H1 t c) H1.size c') := fun t c c' => ((Ext.refl _ _).newB t c).setB _ _ (Or.inr (Nat.le_refl _))
    have hc0 : ∀ t c c', own (setB (newB H1 t c) H1.size c') H1.size = some c' := fun t c c' => own_setB_same own_newB_self
    have hlt1 := own_lt ha21
    have h5 : a2 ≠ H1.size := by omega
    have haT1 : a ∉ s :: T' := haT
    have fin : ∀ (K : Heap) (x : Rng) (c : Nat), Ext [] H1 K → own K c = some (rngC x) → x = addX rs lo hi → z21_s50 (ptr a) (iv (lowI (lo - 1) rs)) (iv (topI (hi + 1) rs)) (ptr c) R K := fun K x c eK hc hx => by
      refine Add_s50 (h1.ext eK (by simp)) (eK.blk (own_blk ha1) (by simp)) (own_blk hc) haT1 hft ht (fun hf => hfull (by omega) _ (e1.trans eK)) (fun hf K2 T2 e2 hT2 hs2 => ?_)
      have eS : Ext [] H K := e1.trans eK
      refine hR (by omega) K2 T2 ((eS.mono (by simp)).trans e2) (fun b hb => (hT2 b hb).imp id fun h => by have := eS.size; omega) ?_
      subst hx; exact hs2
    try simp only [bnd_some, brV_t, brV_f, brG_t, brG_f, newE_u, pickE_t, pickE_f, nilV_p, faV_p, ldE_f, ldE_t, rdA_u, stE_p, cells_int, cells_bool, cells_ptr, cells_slice, cells_func, cells_agg, bin_add, bin_sub, bin_mul, bin_eql, bin_neq, bin_lss, bin_leq, bin_gtr, bin_geq, bin_eqlb, bin_neqb, bin_eqlp, bin_eqlp0, bin_neqp, bin_neqp0, bin_eqls, bin_eqls0, un_not, un_neg, len_s, cap_s, ex_t, cv_i, callV_f, Option.bind_some, Option.map_some, Nat.zero_add, Nat.add_zero, Nat.reduceAdd, Nat.reduceMul, size_newB, size_setB, blk_newB_self, own_newB_self, wrA_b, own_setB_m, blk_setB_m, setB_setB, List.getElem?_toArray, List.getElem?_cons_zero, List.getElem?_cons_succ, List.length_cons, List.length_nil, List.all_cons, List.all_nil, isCell_int, isCell_bool, isCell_ptr, isCell_slice, isCell_func, Bool.and_true, Bool.and_self, and_self, if_true, List.size_toArray, and_true, true_and, Nat.reduceLeDiff, Nat.le_refl, Bool.not_true, Bool.not_false, Bool.true_and, Bool.false_and, Bool.and_false, Int.reduceBNe, Int.reduceBEq, Int.reduceLT, Int.reduceLE, decide_true, decide_false, blk_newB_ne h5, own_newB_ne h5, own_blk ha21, rng_b, rng_b0, rngC_s, rngC_l, rngC_a, rng0, rngC_w]
    refine brV_d (fun hlt => ?_) (fun hge => ?_)
    · have hlt : lowI (lo - 1) rs < topI (hi + 1) rs := by omega
      generalize hK : setB (newB H1 _ _) _ _ = K
      have eK : Ext [] H1 K := by rw [← hK]; exact en _ _ _
      have hcK : own K H1.size = some (rngC (lo, hi)) := by rw [← hK]; exact hc0 _ _ _
      have haK := eK.own ha1 (by simp)
      have ha2K := eK.own ha21 (by simp)
      have hoK := eK.own ho (by simp)
      have hlK := hl.ext eK (by simp)
      obtain ⟨b, o, c, i1, i2, i3, i4⟩ := hlK.show.ix (by decide) (show lowI (lo - 1) rs < rs.length by omega) (rfl : (lowI (lo - 1) rs : Int) = (lowI (lo - 1) rs : Nat))
      have i1' : ixSV 2 v (iv (lowI (lo - 1) rs)) = _ := i1
      have i5 : c[o]? = some (iv (rs[lowI (lo - 1) rs]'(by omega)).1) := i3 0 (by decide)
      obtain ⟨b', o', c', j1, j2, j3, j4⟩ := hlK.show.ix (by decide) (show topI (hi + 1) rs - 1 < rs.length by omega) (rfl : ((topI (hi + 1) rs - 1 : Nat) : Int) = (topI (hi + 1) rs - 1 : Nat))
      have j1' : ixSV 2 v (iv ((topI (hi + 1) rs - 1 : Nat) : Int)) = _ := j1
      have j5 : c'[o' + 1]? = some (iv (rs[topI (hi + 1) rs - 1]'(by omega)).2) := j3 1 (by decide)
      have w3 : IntKind.i64.wrap ((topI (hi + 1) rs : Int) - 1) = ((topI (hi + 1) rs - 1 : Nat) : Int) := by rw [wrap_in (by omega)]; omega
      try simp only [bnd_some, brV_t, brV_f, brG_t, brG_f, newE_u, pickE_t, pickE_f, nilV_p, faV_p, ldE_f, ldE_t, rdA_u, stE_p, cells_int, cells_bool, cells_ptr, cells_slice, cells_func, cells_agg, bin_add, bin_sub, bin_mul, bin_eql, bin_neq, bin_lss, bin_leq, bin_gtr, bin_geq, bin_eqlb, bin_neqb, bin_eqlp, bin_eqlp0, bin_neqp, bin_neqp0, bin_eqls, bin_eqls0, un_not, un_neg, len_s, cap_s, ex_t, cv_i, callV_f, Option.bind_some, Option.map_some, Nat.zero_add, Nat.add_zero, Nat.reduceAdd, Nat.reduceMul, size_newB, size_setB, blk_newB_self, own_newB_self, wrA_b, own_setB_m, blk_setB_m, setB_setB, List.getElem?_toArray, List.getElem?_cons_zero, List.getElem?_cons_succ, List.length_cons, List.length_nil, List.all_cons, List.all_nil, isCell_int, isCell_bool, isCell_ptr, isCell_slice, isCell_func, Bool.and_true, Bool.and_self, and_self, if_true, List.size_toArray, and_true, true_and, Nat.reduceLeDiff, Nat.le_refl, Bool.not_true, Bool.not_false, Bool.true_and, Bool.false_and, Bool.and_false, Int.reduceBNe, Int.reduceBEq, Int.reduceLT, Int.reduceLE, decide_true, decide_false, own_blk haK, own_blk ha2K, own_blk hoK, setC_1, i1', i2, i5, min_iv, w3, j1', j2, j5, max_iv, rng_b, rng_b0, rngC_s, hcK, rngC_l, rngC_a, rngC_w]
      refine fin _ _ _ (en _ _ _) (hc0 _ _ _) ?_
      unfold addX
      rw [if_pos hlt, getD_at (by omega), getD_at (i := topI (hi + 1) rs - 1) (by omega)]
    · refine fin _ _ _ (en _ _ _) (hc0 _ _ _) ?_
      unfold addX
      rw [if_neg (by omega)]
theorem Add_ev {H : Heap} {s : Nat} {room : Nat} {rs : List Rng} {T : List Nat} {lo hi : Int} {R : Value → Heap → Prop} (h : SetH H s room rs T)
    (hR : ∀ H' T', Ext T H H' → (∀ b ∈ T', b ∈ T ∨ H.size ≤ b) → SetH H' s room (addS room rs lo hi) T' → R (iv (addE room rs lo hi)) H') : EvF P N.span_Set_Add #[ptr s, iv lo, iv hi] H R := by
  refine z21_ev _ _ _ _ _ ?_
  obtain ⟨v, T', ho, hl, rfl, hn⟩ := h.rep
  have hlt := own_lt ho
  have en : ∀ t c t' c', Ext [] H (newB (newB H t c) t' c') := fun t c t' c' => ((Ext.refl _ _).newB _ _).newB _ _
  simp only [span_Set_Add, z21_g42, z21_g43, z21_g44, z21_g60, z21_g61, z21_g62]
  try simp only [bnd_some, brV_t, brV_f, brG_t, brG_f, newE_u, pickE_t, pickE_f, nilV_p, faV_p, ldE_f, ldE_t, rdA_u, stE_p, cells_int, cells_bool, cells_ptr, cells_slice, cells_func, cells_agg, bin_add, bin_sub, bin_mul, bin_eql, bin_neq, bin_lss, bin_leq, bin_gtr, bin_geq, bin_eqlb, bin_neqb, bin_eqlp, bin_eqlp0, bin_neqp, bin_neqp0, bin_eqls, bin_eqls0, un_not, un_neg, len_s, cap_s, ex_t, cv_i, callV_f, Option.bind_some, Option.map_some, Nat.zero_add, Nat.add_zero, Nat.reduceAdd, Nat.reduceMul, size_newB, size_setB, blk_newB_self, own_newB_self, wrA_b, own_setB_m, blk_setB_m, setB_setB, List.getElem?_toArray, List.getElem?_cons_zero, List.getElem?_cons_succ, List.length_cons, List.length_nil, List.all_cons, List.all_nil, isCell_int, isCell_bool, isCell_ptr, isCell_slice, isCell_func, Bool.and_true, Bool.and_self, and_self, if_true, List.size_toArray, and_true, true_and, Nat.reduceLeDiff, Nat.le_refl, Bool.not_true, Bool.not_false, Bool.true_and, Bool.false_and, Bool.and_false, Int.reduceBNe, Int.reduceBEq, Int.reduceLT, Int.reduceLE, decide_true, decide_false]
  generalize hK : newB (newB H _ _) _ _ = K
  have e0 : Ext [] H K := by rw [← hK]; exact en _ _ _ _
  have q1 : own K H.size = some #[ptr s] := by rw [← hK, own_newB_ne (by rw [size_newB]; omega), own_newB_self]
  have q2 : own K (H.size + 1) = some #[iv hi] := by rw [← hK, ← size_newB H _ #[ptr s], own_newB_self]
  have h' := h.ext e0 (by simp)
  have ho' := e0.own ho (by simp)
  have hlts := h.rep.lt
  have bad : badR lo hi → R (iv 2) K := fun hb => by
    have := hR K _ (e0.mono (by simp)) (fun b hb => .inl hb) (by
      have : addS room rs lo hi = rs := by unfold addS addE; rw [if_pos hb]; simp
      rw [this]; exact h')
    unfold addE at this; rw [if_pos hb] at this; exact this
  try simp only [bnd_some, brV_t, brV_f, brG_t, brG_f, newE_u, pickE_t, pickE_f, nilV_p, faV_p, ldE_f, ldE_t, rdA_u, stE_p, cells_int, cells_bool, cells_ptr, cells_slice, cells_func, cells_agg, bin_add, bin_sub, bin_mul, bin_eql, bin_neq, bin_lss, bin_leq, bin_gtr, bin_geq, bin_eqlb, bin_neqb, bin_eqlp, bin_eqlp0, bin_neqp, bin_neqp0, bin_eqls, bin_eqls0, un_not, un_neg, len_s, cap_s, ex_t, cv_i, callV_f, Option.bind_some, Option.map_some, Nat.zero_add, Nat.add_zero, Nat.reduceAdd, Nat.reduceMul, size_newB, size_setB, blk_newB_self, own_newB_self, wrA_b, own_setB_m, blk_setB_m, setB_setB, List.getElem?_toArray, List.getElem?_cons_zero, List.getElem?_cons_succ, List.length_cons, List.length_nil, List.all_cons, List.all_nil, isCell_int, isCell_bool, isCell_ptr, isCell_slice, isCell_func, Bool.and_true, Bool.and_self, and_self, if_true, List.size_toArray, and_true, true_and, Nat.reduceLeDiff, Nat.le_refl, Bool.not_true, Bool.not_false, Bool.true_and, Bool.false_and, Bool.and_false, Int.reduceBNe, Int.reduceBEq, Int.reduceLT, Int.reduceLE, decide_true, decide_false, own_blk q1]
  refine setnone_ev ho' h.hroom.1 ?_
  try simp only [bnd_some, brV_t, brV_f, brG_t, brG_f, newE_u, pickE_t, pickE_f, nilV_p, faV_p, ldE_f, ldE_t, rdA_u, stE_p, cells_int, cells_bool, cells_ptr, cells_slice, cells_func, cells_agg, bin_add, bin_sub, bin_mul, bin_eql, bin_neq, bin_lss, bin_leq, bin_gtr, bin_geq, bin_eqlb, bin_neqb, bin_eqlp, bin_eqlp0, bin_neqp, bin_neqp0, bin_eqls, bin_eqls0, un_not, un_neg, len_s, cap_s, ex_t, cv_i, callV_f, Option.bind_some, Option.map_some, Nat.zero_add, Nat.add_zero, Nat.reduceAdd, Nat.reduceMul, size_newB, size_setB, blk_newB_self, own_newB_self, wrA_b, own_setB_m, blk_setB_m, setB_setB, List.getElem?_toArray, List.getElem?_cons_zero, List.getElem?_cons_succ, List.length_cons, List.length_nil, List.all_cons, List.all_nil, isCell_int, isCell_bool, isCell_ptr, isCell_slice, isCell_func, Bool.and_true, Bool.and_self, and_self, if_true, List.size_toArray, and_true, true_and, Nat.reduceLeDiff, Nat.le_refl, Bool.not_true, Bool.not_false, Bool.true_and, Bool.false_and, Bool.and_false, Int.reduceBNe, Int.reduceBEq, Int.reduceLT, Int.reduceLE, decide_true, decide_false]
  refine spanis_ev ?_
  try simp only [bnd_some, brV_t, brV_f, brG_t, brG_f, newE_u, pickE_t, pickE_f, nilV_p, faV_p, ldE_f, ldE_t, rdA_u, stE_p, cells_int, cells_bool, cells_ptr, cells_slice, cells_func, cells_agg, bin_add, bin_sub, bin_mul, bin_eql, bin_neq, bin_lss, bin_leq, bin_gtr, bin_geq, bin_eqlb, bin_neqb, bin_eqlp, bin_eqlp0, bin_neqp, bin_neqp0, bin_eqls, bin_eqls0, un_not, un_neg, len_s, cap_s, ex_t, cv_i, callV_f, Option.bind_some, Option.map_some, Nat.zero_add, Nat.add_zero, Nat.reduceAdd, Nat.reduceMul, size_newB, size_setB, blk_newB_self, own_newB_self, wrA_b, own_setB_m, blk_setB_m, setB_setB, List.getElem?_toArray, List.getElem?_cons_zero, List.getElem?_cons_succ, List.length_cons, List.length_nil, List.all_cons, List.all_nil, isCell_int, isCell_bool, isCell_ptr, isCell_slice, isCell_func, Bool.and_true, Bool.and_self, and_self, if_true, List.size_toArray, and_true, true_and, Nat.reduceLeDiff, Nat.le_refl, Bool.not_true, Bool.not_false, Bool.true_and, Bool.false_and, Bool.and_false, Int.reduceBNe, Int.reduceBEq, Int.reduceLT, Int.reduceLE, decide_true, decide_false]
  refine brV_i (fun h1 => ?_) (fun h1 => ?_)
  · rw [h1]; exact Add_s45_t (bad (.inl (by simp at h1; omega)))
  · try simp only [bnd_some, brV_t, brV_f, brG_t, brG_f, newE_u, pickE_t, pickE_f, nilV_p, faV_p, ldE_f, ldE_t, rdA_u, stE_p, cells_int, cells_bool, cells_ptr, cells_slice, cells_func, cells_agg, bin_add, bin_sub, bin_mul, bin_eql, bin_neq, bin_lss, bin_leq, bin_gtr, bin_geq, bin_eqlb, bin_neqb, bin_eqlp, bin_eqlp0, bin_neqp, bin_neqp0, bin_eqls, bin_eqls0, un_not, un_neg, len_s, cap_s, ex_t, cv_i, callV_f, Option.bind_some, Option.map_some, Nat.zero_add, Nat.add_zero, Nat.reduceAdd, Nat.reduceMul, size_newB, size_setB, blk_newB_self, own_newB_self, wrA_b, own_setB_m, blk_setB_m, setB_setB, List.getElem?_toArray, List.getElem?_cons_zero, List.getElem?_cons_succ, List.length_cons, List.length_nil, List.all_cons, List.all_nil, isCell_int, isCell_bool, isCell_ptr, isCell_slice, isCell_func, Bool.and_true, Bool.and_self, and_self, if_true, List.size_toArray, and_true, true_and, Nat.reduceLeDiff, Nat.le_refl, Bool.not_true, Bool.not_false, Bool.true_and, Bool.false_and, Bool.and_false, Int.reduceBNe, Int.reduceBEq, Int.reduceLT, Int.reduceLE, decide_true, decide_false, own_blk q2]
    refine spanis_ev ?_
    try simp only [bnd_some, brV_t, brV_f, brG_t, brG_f, newE_u, pickE_t, pickE_f, nilV_p, faV_p, ldE_f, ldE_t, rdA_u, stE_p, cells_int, cells_bool, cells_ptr, cells_slice, cells_func, cells_agg, bin_add, bin_sub, bin_mul, bin_eql, bin_neq, bin_lss, bin_leq, bin_gtr, bin_geq, bin_eqlb, bin_neqb, bin_eqlp, bin_eqlp0, bin_neqp, bin_neqp0, bin_eqls, bin_eqls0, un_not, un_neg, len_s, cap_s, ex_t, cv_i, callV_f, Option.bind_some, Option.map_some, Nat.zero_add, Nat.add_zero, Nat.reduceAdd, Nat.reduceMul, size_newB, size_setB, blk_newB_self, own_newB_self, wrA_b, own_setB_m, blk_setB_m, setB_setB, List.getElem?_toArray, List.getElem?_cons_zero, List.getElem?_cons_succ, List.length_cons, List.length_nil, List.all_cons, List.all_nil, isCell_int, isCell_bool, isCell_ptr, isCell_slice, isCell_func, Bool.and_true, Bool.and_self, and_self, if_true, List.size_toArray, and_true, true_and, Nat.reduceLeDiff, Nat.le_refl, Bool.not_true, Bool.not_false, Bool.true_and, Bool.false_and, Bool.and_false, Int.reduceBNe, Int.reduceBEq, Int.reduceLT, Int.reduceLE, decide_true, decide_false]
    refine brV_i (fun h2 => ?_) (fun h2 => ?_)
    · rw [h2]; exact Add_s45_t (bad (.inr (.inl (by simp at h2; omega))))
    · try simp only [bnd_some, brV_t, brV_f, brG_t, brG_f, newE_u, pickE_t, pickE_f, nilV_p, faV_p, ldE_f, ldE_t, rdA_u, stE_p, cells_int, cells_bool, cells_ptr, cells_slice, cells_func, cells_agg, bin_add, bin_sub, bin_mul, bin_eql, bin_neq, bin_lss, bin_leq, bin_gtr, bin_geq, bin_eqlb, bin_neqb, bin_eqlp, bin_eqlp0, bin_neqp, bin_neqp0, bin_eqls, bin_eqls0, un_not, un_neg, len_s, cap_s, ex_t, cv_i, callV_f, Option.bind_some, Option.map_some, Nat.zero_add, Nat.add_zero, Nat.reduceAdd, Nat.reduceMul, size_newB, size_setB, blk_newB_self, own_newB_self, wrA_b, own_setB_m, blk_setB_m, setB_setB, List.getElem?_toArray, List.getElem?_cons_zero, List.getElem?_cons_succ, List.length_cons, List.length_nil, List.all_cons, List.all_nil, isCell_int, isCell_bool, isCell_ptr, isCell_slice, isCell_func, Bool.and_true, Bool.and_self, and_self, if_true, List.size_toArray, and_true, true_and, Nat.reduceLeDiff, Nat.le_refl, Bool.not_true, Bool.not_false, Bool.true_and, Bool.false_and, Bool.and_false, Int.reduceBNe, Int.reduceBEq, Int.reduceLT, Int.reduceLE, decide_true, decide_false, own_blk q2]
      by_cases h3 : hi < lo
      · rw [show (decide (hi < lo)) = true from by simpa using h3]
        exact Add_s45_t (bad (.inr (.inr h3)))
      · rw [show (decide (hi < lo)) = false from by simpa using h3]
        have hg : ¬ badR lo hi := by
          simp only [badR]; simp at h1 h2; omega
        have hg' : 0 ≤ lo ∧ lo ≤ hi ∧ hi ≤ 9007199254740991 := by simp only [badR] at hg; omega
        refine Add_s45_f h' q1 q2 (fun hm => by have := hlts _ hm; omega) hg (fun hf H' e' => ?_) (fun hf H' T2 e' hT2 hs2 => ?_)
        · have e2 : Ext [] H H' := e0.trans e'
          have := hR H' _ (e2.mono (by simp)) (fun b hb => .inl hb) (by
            have : addS room rs lo hi = rs := by unfold addS addE; rw [if_neg hg, if_pos hf]; simp
            rw [this]; exact h.ext e2 (by simp))
          unfold addE at this; rw [if_neg hg, if_pos hf] at this; exact this
        · have hE : addE room rs lo hi = 0 := by unfold addE; rw [if_neg hg, if_neg (by omega)]
          have := hR H' T2 ((e0.mono (by simp)).trans e') (fun b hb => (hT2 b hb).imp id fun h => by have := e0.size; omega) (by
            have : addS room rs lo hi = addL rs lo hi := by unfold addS; rw [if_pos hE]
            rw [this]; exact ⟨hs2, h.hroom, addL_ok h.ok hg'.1 hg'.2.1 hg'.2.2, hf⟩)
          rw [hE] at this; exact this
end Go.Hc

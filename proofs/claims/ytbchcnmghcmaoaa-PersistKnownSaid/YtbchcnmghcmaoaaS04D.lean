/- Sets: what their functions do. -/
import Derived.Test.YtbchcnmghcmaoaaS04C
set_option linter.unusedSimpArgs false
set_option linter.unusedVariables false
namespace Go.Hc
open Go

def setC (room : Int) (v : Value) : Array Value := #[iv room, v]
section
variable {room : Int} {v w : Value}
theorem setC_0 : (setC room v)[0]? = some (iv room) := rfl
theorem setC_1 : (setC room v)[1]? = some v := rfl
theorem setC_s : (setC room v).size = 2 := rfl
theorem setC_w : splice (setC room v) 1 [w] = setC room w := rfl
theorem rngC_0 {p : Rng} : (rngC p)[0]? = some (iv p.1) := rfl
theorem rngC_1 {p : Rng} : (rngC p)[1]? = some (iv p.2) := rfl
theorem rngC_s {p : Rng} : (rngC p).size = 2 := rfl
theorem rngC_l {p : Rng} : (rngC p).toList.length = 2 := rfl
theorem rngC_a {p : Rng} : (rngC p).toList.all isCell = true := by simp [rngC, isCell]
theorem rngC_g {p : Rng} : getC (rngC p) 0 2 = some (rngC p) := rfl
theorem rngC_w {p q : Rng} : splice (rngC p) 0 (rngC q).toList = rngC q := rfl
theorem rng0 : (#[.int .i64 0, .int .i64 0] : Array Value) = rngC (0, 0) := rfl
theorem rng_b {a b : Int} : buildV #[.int .i64 0, .int .i64 0] (places [(0, 1), (1, 1)]) [(0, iv a), (1, iv b)] = some (.agg (rngC (a, b))) := rfl
theorem rng_b0 {a b : Int} : buildV (rngC (0, 0)) (places [(0, 1), (1, 1)]) [(0, iv a), (1, iv b)] = some (.agg (rngC (a, b))) := rfl
end

/-- The set at s, of so much room, has the ranges rs; T: its blocks. -/
def SetV (H : Heap) (s : Nat) (room : Int) (rs : List Rng) (T : List Nat) : Prop := ∃ v T', own H s = some (setC room v) ∧ OwnL rngE H v T' rs ∧ T = s :: T' ∧ s ∉ T'
structure SetH (H : Heap) (s : Nat) (room : Nat) (rs : List Rng) (T : List Nat) : Prop where
  rep : SetV H s room rs T
  hroom : 1 ≤ room ∧ room ≤ 256
  ok : Okr rs
  few : rs.length ≤ room
theorem SetV.ext {H H' : Heap} {s : Nat} {room : Int} {rs : List Rng} {T S : List Nat} (h : SetV H s room rs T) (he : Ext S H H') (hs : ∀ b ∈ T, b ∉ S) : SetV H' s room rs T := by
  obtain ⟨v, T', h1, h2, rfl, h3⟩ := h
  exact ⟨v, T', he.own h1 (hs _ (by simp)), h2.ext he (fun b hb => hs b (by simp [hb])), rfl, h3⟩
theorem SetH.ext {H H' : Heap} {s : Nat} {room : Nat} {rs : List Rng} {T S : List Nat} (h : SetH H s room rs T) (he : Ext S H H') (hs : ∀ b ∈ T, b ∉ S) : SetH H' s room rs T := ⟨h.rep.ext he hs, h.hroom, h.ok, h.few⟩
theorem SetV.has {H : Heap} {s : Nat} {room : Int} {rs : List Rng} {T : List Nat} (h : SetV H s room rs T) : ∀ b ∈ T, ∃ c, own H b = some c := by
  obtain ⟨v, T', h1, h2, rfl, h3⟩ := h
  intro b hb
  rcases List.mem_cons.1 hb with rfl | hb
  · exact ⟨_, h1⟩
  · exact h2.has b hb
theorem SetV.lt {H : Heap} {s : Nat} {room : Int} {rs : List Rng} {T : List Nat} (h : SetV H s room rs T) : ∀ b ∈ T, b < H.size := fun b hb => by
  obtain ⟨c, hc⟩ := h.has b hb; exact own_lt hc
theorem SetV.mem {H : Heap} {s : Nat} {room : Int} {rs : List Rng} {T : List Nat} (h : SetV H s room rs T) : s ∈ T := by
  obtain ⟨v, T', h1, h2, rfl, h3⟩ := h; simp

theorem setnone_nil {H : Heap} {R : Value → Heap → Prop} (hR : R (.bool true) H) : EvF P N.span_Set_none #[.pointer none] H R := by
  refine z33_ev _ _ _ ?_
  simp only [z33_g5, z33_g6, span_Set_none]
  try simp only [bnd_some, brV_t, brV_f, brG_t, brG_f, newE_u, pickE_t, pickE_f, nilV_p, faV_p, ldE_f, ldE_t, rdA_u, stE_p, cells_int, cells_bool, cells_ptr, cells_slice, cells_func, cells_agg, bin_add, bin_sub, bin_mul, bin_eql, bin_neq, bin_lss, bin_leq, bin_gtr, bin_geq, bin_eqlb, bin_neqb, bin_eqlp, bin_eqlp0, bin_neqp, bin_neqp0, bin_eqls, bin_eqls0, un_not, un_neg, len_s, cap_s, ex_t, cv_i, callV_f, Option.bind_some, Option.map_some, Nat.zero_add, Nat.add_zero, Nat.reduceAdd, Nat.reduceMul, size_newB, size_setB, blk_newB_self, own_newB_self, wrA_b, own_setB_m, blk_setB_m, setB_setB, List.getElem?_toArray, List.getElem?_cons_zero, List.getElem?_cons_succ, List.length_cons, List.length_nil, List.all_cons, List.all_nil, isCell_int, isCell_bool, isCell_ptr, isCell_slice, isCell_func, Bool.and_true, Bool.and_self, and_self, if_true, List.size_toArray, and_true, true_and, Nat.reduceLeDiff, Nat.le_refl, Bool.not_true, Bool.not_false, Bool.true_and, Bool.false_and, Bool.and_false, Int.reduceBNe, Int.reduceBEq, Int.reduceLT, Int.reduceLE, decide_true, decide_false, Option.isNone_none]
  exact hR
theorem setnone_ev {H : Heap} {s : Nat} {room : Nat} {v : Value} {R : Value → Heap → Prop} (h : own H s = some (setC room v)) (h0 : 1 ≤ room) (hR : R (.bool false) H) : EvF P N.span_Set_none #[ptr s] H R := by
  refine z33_ev _ _ _ ?_
  have h0' : ((room : Int) == 0) = false := by simp; omega
  simp only [z33_g5, z33_g6, span_Set_none]
  try simp only [bnd_some, brV_t, brV_f, brG_t, brG_f, newE_u, pickE_t, pickE_f, nilV_p, faV_p, ldE_f, ldE_t, rdA_u, stE_p, cells_int, cells_bool, cells_ptr, cells_slice, cells_func, cells_agg, bin_add, bin_sub, bin_mul, bin_eql, bin_neq, bin_lss, bin_leq, bin_gtr, bin_geq, bin_eqlb, bin_neqb, bin_eqlp, bin_eqlp0, bin_neqp, bin_neqp0, bin_eqls, bin_eqls0, un_not, un_neg, len_s, cap_s, ex_t, cv_i, callV_f, Option.bind_some, Option.map_some, Nat.zero_add, Nat.add_zero, Nat.reduceAdd, Nat.reduceMul, size_newB, size_setB, blk_newB_self, own_newB_self, wrA_b, own_setB_m, blk_setB_m, setB_setB, List.getElem?_toArray, List.getElem?_cons_zero, List.getElem?_cons_succ, List.length_cons, List.length_nil, List.all_cons, List.all_nil, isCell_int, isCell_bool, isCell_ptr, isCell_slice, isCell_func, Bool.and_true, Bool.and_self, and_self, if_true, List.size_toArray, and_true, true_and, Nat.reduceLeDiff, Nat.le_refl, Bool.not_true, Bool.not_false, Bool.true_and, Bool.false_and, Bool.and_false, Int.reduceBNe, Int.reduceBEq, Int.reduceLT, Int.reduceLE, decide_true, decide_false, own_blk h, setC_0, h0']
  exact hR
theorem spanis_ev {H : Heap} {n : Int} {R : Value → Heap → Prop} (hR : R (.bool (decide (0 ≤ n ∧ n ≤ 9007199254740991))) H) : EvF P N.span_is #[iv n] H R := by
  refine z34_ev _ _ _ ?_
  simp only [z34_g5, z34_g6, span_is]
  try simp only [bnd_some, brV_t, brV_f, brG_t, brG_f, newE_u, pickE_t, pickE_f, nilV_p, faV_p, ldE_f, ldE_t, rdA_u, stE_p, cells_int, cells_bool, cells_ptr, cells_slice, cells_func, cells_agg, bin_add, bin_sub, bin_mul, bin_eql, bin_neq, bin_lss, bin_leq, bin_gtr, bin_geq, bin_eqlb, bin_neqb, bin_eqlp, bin_eqlp0, bin_neqp, bin_neqp0, bin_eqls, bin_eqls0, un_not, un_neg, len_s, cap_s, ex_t, cv_i, callV_f, Option.bind_some, Option.map_some, Nat.zero_add, Nat.add_zero, Nat.reduceAdd, Nat.reduceMul, size_newB, size_setB, blk_newB_self, own_newB_self, wrA_b, own_setB_m, blk_setB_m, setB_setB, List.getElem?_toArray, List.getElem?_cons_zero, List.getElem?_cons_succ, List.length_cons, List.length_nil, List.all_cons, List.all_nil, isCell_int, isCell_bool, isCell_ptr, isCell_slice, isCell_func, Bool.and_true, Bool.and_self, and_self, if_true, List.size_toArray, and_true, true_and, Nat.reduceLeDiff, Nat.le_refl, Bool.not_true, Bool.not_false, Bool.true_and, Bool.false_and, Bool.and_false, Int.reduceBNe, Int.reduceBEq, Int.reduceLT, Int.reduceLE, decide_true, decide_false]
  refine brV_d (fun h => ?_) (fun h => ?_)
  · simpa [h] using hR
  · simpa [h] using hR
theorem spanNew_ev {H : Heap} {room : Int} {R : Value → Heap → Prop} (hbad : (room < 1 ∨ 256 < room) → R (.tuple #[.pointer none, iv 2]) H)
    (hR : ∀ H' (n : Nat), room = n → Ext [] H H' → SetH H' H.size n [] [H.size] → R (.tuple #[ptr H.size, iv 0]) H') : EvF P N.span_New #[iv room] H R := by
  refine z31_ev _ _ _ ?_
  have hb : buildV #[.int .i64 0, .slice none 0 0] (places [(0, 1), (1, 1)]) [(0, iv room)] = some (.agg (setC room (.slice none 0 0))) := rfl
  simp only [z31_g11, z31_g12, z31_g13, z31_g14, span_New]
  try simp only [bnd_some, brV_t, brV_f, brG_t, brG_f, newE_u, pickE_t, pickE_f, nilV_p, faV_p, ldE_f, ldE_t, rdA_u, stE_p, cells_int, cells_bool, cells_ptr, cells_slice, cells_func, cells_agg, bin_add, bin_sub, bin_mul, bin_eql, bin_neq, bin_lss, bin_leq, bin_gtr, bin_geq, bin_eqlb, bin_neqb, bin_eqlp, bin_eqlp0, bin_neqp, bin_neqp0, bin_eqls, bin_eqls0, un_not, un_neg, len_s, cap_s, ex_t, cv_i, callV_f, Option.bind_some, Option.map_some, Nat.zero_add, Nat.add_zero, Nat.reduceAdd, Nat.reduceMul, size_newB, size_setB, blk_newB_self, own_newB_self, wrA_b, own_setB_m, blk_setB_m, setB_setB, List.getElem?_toArray, List.getElem?_cons_zero, List.getElem?_cons_succ, List.length_cons, List.length_nil, List.all_cons, List.all_nil, isCell_int, isCell_bool, isCell_ptr, isCell_slice, isCell_func, Bool.and_true, Bool.and_self, and_self, if_true, List.size_toArray, and_true, true_and, Nat.reduceLeDiff, Nat.le_refl, Bool.not_true, Bool.not_false, Bool.true_and, Bool.false_and, Bool.and_false, Int.reduceBNe, Int.reduceBEq, Int.reduceLT, Int.reduceLE, decide_true, decide_false, hb]
  refine brV_d (fun h => ?_) (fun h => ?_)
  · exact hbad (.inl h)
  · refine brV_d (fun h2 => ?_) (fun h2 => ?_)
    · exact hbad (.inr h2)
    · refine hR _ room.toNat (by omega) ((Ext.refl _ _).newB _ _) ⟨⟨.slice none 0 0, [], ?_, .nil, rfl, by simp⟩, by omega, Okr.nil, by simp⟩
      rw [own_newB_self, show ((room.toNat : Nat) : Int) = room from by omega]

/-- a set's search -/
theorem first_ev {H : Heap} {s : Nat} {room : Nat} {rs : List Rng} {T : List Nat} {n : Int} {R : Value → Heap → Prop} (h : SetH H s room rs T)
    (hR : ∀ H', Ext [] H H' → R (iv (lowI n rs)) H') : EvF P N.span_Set_first #[ptr s, iv n] H R := by
  refine z35_ev _ _ _ _ ?_
  obtain ⟨⟨v, T', ho, hl, rfl, hn⟩, hr, hok, hf⟩ := h
  have hlt := own_lt ho
  have en : ∀ t c t' c', Ext [] H (newB (newB H t c) t' c') := fun t c t' c' => ((Ext.refl _ _).newB _ _).newB _ _
  simp only [z35_g5, z35_g6, span_Set_first]
  try simp only [bnd_some, brV_t, brV_f, brG_t, brG_f, newE_u, pickE_t, pickE_f, nilV_p, faV_p, ldE_f, ldE_t, rdA_u, stE_p, cells_int, cells_bool, cells_ptr, cells_slice, cells_func, cells_agg, bin_add, bin_sub, bin_mul, bin_eql, bin_neq, bin_lss, bin_leq, bin_gtr, bin_geq, bin_eqlb, bin_neqb, bin_eqlp, bin_eqlp0, bin_neqp, bin_neqp0, bin_eqls, bin_eqls0, un_not, un_neg, len_s, cap_s, ex_t, cv_i, callV_f, Option.bind_some, Option.map_some, Nat.zero_add, Nat.add_zero, Nat.reduceAdd, Nat.reduceMul, size_newB, size_setB, blk_newB_self, own_newB_self, wrA_b, own_setB_m, blk_setB_m, setB_setB, List.getElem?_toArray, List.getElem?_cons_zero, List.getElem?_cons_succ, List.length_cons, List.length_nil, List.all_cons, List.all_nil, isCell_int, isCell_bool, isCell_ptr, isCell_slice, isCell_func, Bool.and_true, Bool.and_self, and_self, if_true, List.size_toArray, and_true, true_and, Nat.reduceLeDiff, Nat.le_refl, Bool.not_true, Bool.not_false, Bool.true_and, Bool.false_and, Bool.and_false, Int.reduceBNe, Int.reduceBEq, Int.reduceLT, Int.reduceLE, decide_true, decide_false]
  generalize hK : newB (newB H _ _) _ _ = K
  have e0 : Ext [] H K := by rw [← hK]; exact en _ _ _ _
  have q1 : blk K H.size = some #[ptr s] := by rw [← hK, blk_newB_ne (by rw [size_newB]; omega), blk_newB_self]
  have q2 : blk K (H.size + 1) = some #[iv n] := by rw [← hK, ← size_newB H _ #[ptr s], blk_newB_self]
  have ho' := e0.own ho (by simp)
  have hl' := hl.ext e0 (by simp)
  try simp only [bnd_some, brV_t, brV_f, brG_t, brG_f, newE_u, pickE_t, pickE_f, nilV_p, faV_p, ldE_f, ldE_t, rdA_u, stE_p, cells_int, cells_bool, cells_ptr, cells_slice, cells_func, cells_agg, bin_add, bin_sub, bin_mul, bin_eql, bin_neq, bin_lss, bin_leq, bin_gtr, bin_geq, bin_eqlb, bin_neqb, bin_eqlp, bin_eqlp0, bin_neqp, bin_neqp0, bin_eqls, bin_eqls0, un_not, un_neg, len_s, cap_s, ex_t, cv_i, callV_f, Option.bind_some, Option.map_some, Nat.zero_add, Nat.add_zero, Nat.reduceAdd, Nat.reduceMul, size_newB, size_setB, blk_newB_self, own_newB_self, wrA_b, own_setB_m, blk_setB_m, setB_setB, List.getElem?_toArray, List.getElem?_cons_zero, List.getElem?_cons_succ, List.length_cons, List.length_nil, List.all_cons, List.all_nil, isCell_int, isCell_bool, isCell_ptr, isCell_slice, isCell_func, Bool.and_true, Bool.and_self, and_self, if_true, List.size_toArray, and_true, true_and, Nat.reduceLeDiff, Nat.le_refl, Bool.not_true, Bool.not_false, Bool.true_and, Bool.false_and, Bool.and_false, Int.reduceBNe, Int.reduceBEq, Int.reduceLT, Int.reduceLE, decide_true, decide_false, q1, own_blk ho', setC_1, hl'.len]
  refine Search_ev (g := fun i => decide (n ≤ (rs.getD i (0, 0)).2)) (by omega) (fun i hi Q hQ => ?_) (fun i j hij hj hg => ?_) (fun k hk ha hb => ?_)
  · try simp only [bnd_some, brV_t, brV_f, brG_t, brG_f, newE_u, pickE_t, pickE_f, nilV_p, faV_p, ldE_f, ldE_t, rdA_u, stE_p, cells_int, cells_bool, cells_ptr, cells_slice, cells_func, cells_agg, bin_add, bin_sub, bin_mul, bin_eql, bin_neq, bin_lss, bin_leq, bin_gtr, bin_geq, bin_eqlb, bin_neqb, bin_eqlp, bin_eqlp0, bin_neqp, bin_neqp0, bin_eqls, bin_eqls0, un_not, un_neg, len_s, cap_s, ex_t, cv_i, callV_f, Option.bind_some, Option.map_some, Nat.zero_add, Nat.add_zero, Nat.reduceAdd, Nat.reduceMul, size_newB, size_setB, blk_newB_self, own_newB_self, wrA_b, own_setB_m, blk_setB_m, setB_setB, List.getElem?_toArray, List.getElem?_cons_zero, List.getElem?_cons_succ, List.length_cons, List.length_nil, List.all_cons, List.all_nil, isCell_int, isCell_bool, isCell_ptr, isCell_slice, isCell_func, Bool.and_true, Bool.and_self, and_self, if_true, List.size_toArray, and_true, true_and, Nat.reduceLeDiff, Nat.le_refl, Bool.not_true, Bool.not_false, Bool.true_and, Bool.false_and, Bool.and_false, Int.reduceBNe, Int.reduceBEq, Int.reduceLT, Int.reduceLE, decide_true, decide_false, Array.toList_empty, List.nil_append, List.cons_append]
    refine z60_ev _ _ _ _ _ ?_
    obtain ⟨b, o, c, i1, i2, i3, i4⟩ := hl'.show.ix (by decide) hi (rfl : (i : Int) = i)
    have i1' : ixSV 2 v (iv i) = _ := i1
    have i5 : c[o + 1]? = some (iv rs[i].2) := i3 1 (by decide)
    simp only [z60_g5, z60_g6, span_Set_first_1]
    try simp only [bnd_some, brV_t, brV_f, brG_t, brG_f, newE_u, pickE_t, pickE_f, nilV_p, faV_p, ldE_f, ldE_t, rdA_u, stE_p, cells_int, cells_bool, cells_ptr, cells_slice, cells_func, cells_agg, bin_add, bin_sub, bin_mul, bin_eql, bin_neq, bin_lss, bin_leq, bin_gtr, bin_geq, bin_eqlb, bin_neqb, bin_eqlp, bin_eqlp0, bin_neqp, bin_neqp0, bin_eqls, bin_eqls0, un_not, un_neg, len_s, cap_s, ex_t, cv_i, callV_f, Option.bind_some, Option.map_some, Nat.zero_add, Nat.add_zero, Nat.reduceAdd, Nat.reduceMul, size_newB, size_setB, blk_newB_self, own_newB_self, wrA_b, own_setB_m, blk_setB_m, setB_setB, List.getElem?_toArray, List.getElem?_cons_zero, List.getElem?_cons_succ, List.length_cons, List.length_nil, List.all_cons, List.all_nil, isCell_int, isCell_bool, isCell_ptr, isCell_slice, isCell_func, Bool.and_true, Bool.and_self, and_self, if_true, List.size_toArray, and_true, true_and, Nat.reduceLeDiff, Nat.le_refl, Bool.not_true, Bool.not_false, Bool.true_and, Bool.false_and, Bool.and_false, Int.reduceBNe, Int.reduceBEq, Int.reduceLT, Int.reduceLE, decide_true, decide_false, q1, q2, own_blk ho', setC_1, i1', i2, i5]
    rw [getD_at hi] at hQ; exact hQ
  · rw [getD_at (by omega)] at hg
    rw [getD_at hj]
    have := (hok.le2 hij hj).1
    simp only [decide_eq_true_eq] at hg ⊢; omega
  · have : lowI n rs = k := by
      refine fi_eq hk (fun i h h1 => ?_) (fun h => ?_)
      · have := ha i h1
        rw [getD_at h] at this
        simp only [decide_eq_false_iff_not] at this
        simp only [decide_eq_true_eq]; omega
      · have := hb k (Nat.le_refl _) h
        rw [getD_at h] at this
        simp only [decide_eq_true_eq] at this
        simp only [decide_eq_false_iff_not]; omega
    rw [← this]; exact hR K e0

/-- the last part of Add -/
theorem Add_s50 {H : Heap} {s a c : Nat} {room : Nat} {rs : List Rng} {T : List Nat} {f t : Nat} {x : Rng} {R : Value → Heap → Prop} (h : SetH H s room rs T) (ha : blk H a = some #[ptr s]) (hc : blk H c = some (rngC x))
    (haT : a ∉ T) (hft : f ≤ t) (ht : t ≤ rs.length) (hfull : room < rs.length - (t - f) + 1 → R (iv 5) H)
    (hR : rs.length - (t - f) + 1 ≤ room → ∀ H' T', Ext T H H' → (∀ b ∈ T', b ∈ T ∨ H.size ≤ b) → SetV H' s room (rs.take f ++ x :: rs.drop t) T' → R (iv 0) H') :
    z21_s50 (ptr a) (iv f) (iv t) (ptr c) R H := by
  obtain ⟨⟨v, T', ho, hl, rfl, hn⟩, hr, hok, hfw⟩ := h
  have w1 : IntKind.i64.wrap ((t : Int) - (f : Int)) = ((t - f : Nat) : Int) := by rw [wrap_in (by omega)]; omega
  have w2 : IntKind.i64.wrap ((rs.length : Int) - ((t - f : Nat) : Int)) = ((rs.length - (t - f) : Nat) : Int) := by rw [wrap_in (by omega)]; omega
  have w3 : IntKind.i64.wrap (((rs.length - (t - f) : Nat) : Int) + 1) = ((rs.length - (t - f) + 1 : Nat) : Int) := by rw [wrap_in (by omega)]; omega
  have hsa : a ≠ s := fun e => haT (by simp [e])
  simp only [z21_s50, z21_g51, z21_g52, z21_g53, z21_g54]
  try simp only [bnd_some, brV_t, brV_f, brG_t, brG_f, newE_u, pickE_t, pickE_f, nilV_p, faV_p, ldE_f, ldE_t, rdA_u, stE_p, cells_int, cells_bool, cells_ptr, cells_slice, cells_func, cells_agg, bin_add, bin_sub, bin_mul, bin_eql, bin_neq, bin_lss, bin_leq, bin_gtr, bin_geq, bin_eqlb, bin_neqb, bin_eqlp, bin_eqlp0, bin_neqp, bin_neqp0, bin_eqls, bin_eqls0, un_not, un_neg, len_s, cap_s, ex_t, cv_i, callV_f, Option.bind_some, Option.map_some, Nat.zero_add, Nat.add_zero, Nat.reduceAdd, Nat.reduceMul, size_newB, size_setB, blk_newB_self, own_newB_self, wrA_b, own_setB_m, blk_setB_m, setB_setB, List.getElem?_toArray, List.getElem?_cons_zero, List.getElem?_cons_succ, List.length_cons, List.length_nil, List.all_cons, List.all_nil, isCell_int, isCell_bool, isCell_ptr, isCell_slice, isCell_func, Bool.and_true, Bool.and_self, and_self, if_true, List.size_toArray, and_true, true_and, Nat.reduceLeDiff, Nat.le_refl, Bool.not_true, Bool.not_false, Bool.true_and, Bool.false_and, Bool.and_false, Int.reduceBNe, Int.reduceBEq, Int.reduceLT, Int.reduceLE, decide_true, decide_false, ha, own_blk ho, setC_0, setC_1, hl.len, w1, w2, w3]
  refine brV_d (fun hlt => ?_) (fun hge => ?_)
  · exact hfull (by omega)
  · try simp only [bnd_some, brV_t, brV_f, brG_t, brG_f, newE_u, pickE_t, pickE_f, nilV_p, faV_p, ldE_f, ldE_t, rdA_u, stE_p, cells_int, cells_bool, cells_ptr, cells_slice, cells_func, cells_agg, bin_add, bin_sub, bin_mul, bin_eql, bin_neq, bin_lss, bin_leq, bin_gtr, bin_geq, bin_eqlb, bin_neqb, bin_eqlp, bin_eqlp0, bin_neqp, bin_neqp0, bin_eqls, bin_eqls0, un_not, un_neg, len_s, cap_s, ex_t, cv_i, callV_f, Option.bind_some, Option.map_some, Nat.zero_add, Nat.add_zero, Nat.reduceAdd, Nat.reduceMul, size_newB, size_setB, blk_newB_self, own_newB_self, wrA_b, own_setB_m, blk_setB_m, setB_setB, List.getElem?_toArray, List.getElem?_cons_zero, List.getElem?_cons_succ, List.length_cons, List.length_nil, List.all_cons, List.all_nil, isCell_int, isCell_bool, isCell_ptr, isCell_slice, isCell_func, Bool.and_true, Bool.and_self, and_self, if_true, List.size_toArray, and_true, true_and, Nat.reduceLeDiff, Nat.le_refl, Bool.not_true, Bool.not_false, Bool.true_and, Bool.false_and, Bool.and_false, Int.reduceBNe, Int.reduceBEq, Int.reduceLT, Int.reduceLE, decide_true, decide_false, hc, rngC_g]
    refine bslE_1 (E := rngE) (a := x) rfl (fun H1 z1 e1 o1 => ?_) (by decide)
    have ho1 := e1.own ho (by simp)
    have ha1 := e1.blk ha (by simp)
    have hl1 := hl.ext e1 (by simp)
    have hlt := hl.lt
    try simp only [bnd_some, brV_t, brV_f, brG_t, brG_f, newE_u, pickE_t, pickE_f, nilV_p, faV_p, ldE_f, ldE_t, rdA_u, stE_p, cells_int, cells_bool, cells_ptr, cells_slice, cells_func, cells_agg, bin_add, bin_sub, bin_mul, bin_eql, bin_neq, bin_lss, bin_leq, bin_gtr, bin_geq, bin_eqlb, bin_neqb, bin_eqlp, bin_eqlp0, bin_neqp, bin_neqp0, bin_eqls, bin_eqls0, un_not, un_neg, len_s, cap_s, ex_t, cv_i, callV_f, Option.bind_some, Option.map_some, Nat.zero_add, Nat.add_zero, Nat.reduceAdd, Nat.reduceMul, size_newB, size_setB, blk_newB_self, own_newB_self, wrA_b, own_setB_m, blk_setB_m, setB_setB, List.getElem?_toArray, List.getElem?_cons_zero, List.getElem?_cons_succ, List.length_cons, List.length_nil, List.all_cons, List.all_nil, isCell_int, isCell_bool, isCell_ptr, isCell_slice, isCell_func, Bool.and_true, Bool.and_self, and_self, if_true, List.size_toArray, and_true, true_and, Nat.reduceLeDiff, Nat.le_refl, Bool.not_true, Bool.not_false, Bool.true_and, Bool.false_and, Bool.and_false, Int.reduceBNe, Int.reduceBEq, Int.reduceLT, Int.reduceLE, decide_true, decide_false, ha1, own_blk ho1, setC_1, and_true, true_and]
    refine Replace_ev hl1 o1 (fun b hb hb' => ?_) hft ht (by omega) fun v' S' H2 e2 hS2 o2 => ?_
    · simp at hb; subst hb; have := hlt _ hb'; omega
    have hne : ∀ b ∈ S', b ≠ s := fun b hb e => by
      subst e
      rcases hS2 _ hb with h | h
      · exact hn h
      · have := own_lt ho1; omega
    have ho2 := e2.own ho1 hn
    have ha2 := e2.blk ha1 (fun hm => haT (by simp [hm]))
    obtain ⟨c1, c2⟩ := o2.cell
    try simp only [bnd_some, brV_t, brV_f, brG_t, brG_f, newE_u, pickE_t, pickE_f, nilV_p, faV_p, ldE_f, ldE_t, rdA_u, stE_p, cells_int, cells_bool, cells_ptr, cells_slice, cells_func, cells_agg, bin_add, bin_sub, bin_mul, bin_eql, bin_neq, bin_lss, bin_leq, bin_gtr, bin_geq, bin_eqlb, bin_neqb, bin_eqlp, bin_eqlp0, bin_neqp, bin_neqp0, bin_eqls, bin_eqls0, un_not, un_neg, len_s, cap_s, ex_t, cv_i, callV_f, Option.bind_some, Option.map_some, Nat.zero_add, Nat.add_zero, Nat.reduceAdd, Nat.reduceMul, size_newB, size_setB, blk_newB_self, own_newB_self, wrA_b, own_setB_m, blk_setB_m, setB_setB, List.getElem?_toArray, List.getElem?_cons_zero, List.getElem?_cons_succ, List.length_cons, List.length_nil, List.all_cons, List.all_nil, isCell_int, isCell_bool, isCell_ptr, isCell_slice, isCell_func, Bool.and_true, Bool.and_self, and_self, if_true, List.size_toArray, and_true, true_and, Nat.reduceLeDiff, Nat.le_refl, Bool.not_true, Bool.not_false, Bool.true_and, Bool.false_and, Bool.and_false, Int.reduceBNe, Int.reduceBEq, Int.reduceLT, Int.reduceLE, decide_true, decide_false, ha2, c1, List.length_singleton, ho2, setC_s, setC_w, c2]
    have e3 : Ext [s] H2 (setB H2 s (setC room v')) := (Ext.refl _ _).setB _ _ (Or.inl (by simp))
    refine hR (by omega) _ (s :: S') (((e1.mono (by simp)).thru e2 (fun b hb => Or.inl (by simp [hb]))).thru e3 (by simp)) (fun b hb => ?_) ⟨v', S', own_setB_same ho2, o2.ext e3 (fun b hb => by simp; exact hne b hb), rfl, fun hm => hne _ hm rfl⟩
    rcases List.mem_cons.1 hb with rfl | hb
    · exact .inl (by simp)
    · rcases hS2 b hb with h | h
      · exact .inl (by simp [h])
      · exact .inr (by omega)
end Go.Hc

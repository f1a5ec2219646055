/- Sets: what their functions do. -/
import Derived.Test.YtcjnbiajjlceeaaGreatX11
set_option linter.unusedSimpArgs false
set_option linter.unusedVariables false
namespace Go.Hc
open Go

def setC (room : Int) (v : Value) : Array Value := #[iv room, v]
section
variable {room : Int} {v w : Value}
theorem setC_0 : (setC room v)[0]? = some (iv room) := rfl
theorem setC_1 : (setC room v)[1]? = some v := rfl
theorem setC_s : (setC room v).size = 2 := rfl
theorem setC_w : splice (setC room v) 1 [w] = setC room w := rfl
theorem rngC_0 {p : Rng} : (rngC p)[0]? = some (iv p.1) := rfl
theorem rngC_1 {p : Rng} : (rngC p)[1]? = some (iv p.2) := rfl
theorem rngC_s {p : Rng} : (rngC p).size = 2 := rfl
theorem rngC_l {p : Rng} : (rngC p).toList.length = 2 := rfl
theorem rngC_a {p : Rng} : (rngC p).toList.all isCell = true := by simp [rngC, isCell]
theorem rngC_g {p : Rng} : getC (rngC p) 0 2 = some (rngC p) := rfl
theorem rngC_w {p q : Rng} : splice (rngC p) 0 (rngC q).toList = rngC q := rfl
theorem rng0 : (#[.int .i64 0, .int .i64 0] : Array Value) = rngC (0, 0) := rfl
theorem rng_b {a b : Int} : buildV #[.int .i64 0, .int .i64 0] (places [(0, 1), (1, 1)]) [(0, iv a), (1, iv b)] = some (.agg (rngC (a, b))) := rfl
theorem rng_b0 {a b : Int} : buildV (rngC (0, 0)) (places [(0, 1), (1, 1)]) [(0, iv a), (1, iv b)] = some (.agg (rngC (a, b))) := rfl
end

/-- The set at s, of so much room, has the ranges rs; T: its blocks. -/
def SetV (H : Heap) (s : Nat) (room : Int) (rs : List Rng) (T : List Nat) : Prop := ∃ v T', own H s = some (setC room v) ∧ OwnL rngE H v T' rs ∧ T = s :: T' ∧ s ∉ T'
structure SetH (H : Heap) (s : Nat) (room : Nat) (rs : List Rng) (T : List Nat) : Prop where
  rep : SetV H s room rs T
  hroom : 1 ≤ room ∧ room ≤ 256
  ok : Okr rs
  few : rs.length ≤ room
theorem SetV.ext {H H' : Heap} {s : Nat} {room : Int} {rs : List Rng} {T S : List Nat} (h : SetV H s room rs T) (he : Ext S H H') (hs : ∀ b ∈ T, b ∉ S) : SetV H' s room rs T := by
  obtain ⟨v, T', h1, h2, rfl, h3⟩ := h
  exact ⟨v, T', he.own h1 (hs _ (by simp)), h2.ext he (fun b hb => hs b (by simp [hb])), rfl, h3⟩
theorem SetH.ext {H H' : Heap} {s : Nat} {room : Nat} {rs : List Rng} {T S : List Nat} (h : SetH H s room rs T) (he : Ext S H H') (hs : ∀ b ∈ T, b ∉ S) : SetH H' s room rs T := ⟨h.rep.ext he hs, h.hroom, h.ok, h.few⟩
theorem SetV.has {H : Heap} {s : Nat} {room : Int} {rs : List Rng} {T : List Nat} (h : SetV H s room rs T) : ∀ b ∈ T, ∃ c, own H b = some c := by
  obtain ⟨v, T', h1, h2, rfl, h3⟩ := h
  intro b hb
  rcases List.mem_cons.1 hb with rfl | hb
  · exact ⟨_, h1⟩
  · exact h2.has b hb
theorem SetV.lt {H : Heap} {s : Nat} {room : Int} {rs : List Rng} {T : List Nat} (h : SetV H s room rs T) : ∀ b ∈ T, b < H.size := fun b hb => by
  obtain ⟨c, hc⟩ := h.has b hb; exact own_lt hc
theorem SetV.mem {H : Heap} {s : Nat} {room : Int} {rs : List Rng} {T : List Nat} (h : SetV H s room rs T) : s ∈ T := by
  obtain ⟨v, T', h1, h2, rfl, h3⟩ := h; simp

theorem setnone_nil {H : Heap} {R : Value → Heap → Prop} (hR : R (.bool true) H) : EvF P N.span_Set_none #[.pointer none] H R := by
  refine z112_ev _ _ _ ?_
  simp only [z112_g5, z112_g6, span_Set_none]
  try simp only [bnd_some, brV_t, brV_f, brG_t, brG_f, newE_u, pickE_t, pickE_f, nilV_p, faV_p, ldE_f, ldE_t, rdA_u, stE_p, cells_int, cells_bool, cells_ptr, cells_slice, cells_func, cells_agg, bin_add, bin_sub, bin_mul, bin_eql, bin_neq, bin_lss, bin_leq, bin_gtr, bin_geq, bin_eqlb, bin_neqb, bin_eqlp, bin_eqlp0, bin_neqp, bin_neqp0, bin_eqls, bin_eqls0, un_not, un_neg, len_s, cap_s, ex_t, cv_i, callV_f, Option.bind_some, Option.map_some, Nat.zero_add, Nat.add_zero, Nat.reduceAdd, Nat.reduceMul, size_newB, size_setB, blk_newB_self, own_newB_self, wrA_b, own_setB_m, blk_setB_m, setB_setB, List.getElem?_toArray, List.getElem?_cons_zero, List.getElem?_cons_succ, List.length_cons, List.length_nil, List.all_cons, List.all_nil, isCell_int, isCell_bool, isCell_ptr, isCell_slice, isCell_func, Bool.and_true, Bool.and_self, and_self, if_true, List.size_toArray, and_true, true_and, Nat.reduceLeDiff, Nat.le_refl, Bool.not_true, Bool.not_false, Bool.true_and, Bool.false_and, Bool.and_false, Int.reduceBNe, Int.reduceBEq, Int.reduceLT, Int.reduceLE, decide_true, decide_false, Option.isNone_none]
  exact hR
theorem setnone_ev {H : Heap} {s : Nat} {room : Nat} {v : Value} {R : Value → Heap → Prop} (h : own H s = some (setC room v)) (h0 : 1 ≤ room) (hR : R (.bool false) H) : EvF P N.span_Set_none #[ptr s] H R := by
  refine z112_ev _ _ _ ?_
  have h0' : ((room : Int) == 0) = false := by simp; omega
  simp only [z112_g5, z112_g6, span_Set_none]
  try simp only [bnd_some, brV_t, brV_f, brG_t, brG_f, newE_u, pickE_t, pickE_f, nilV_p, faV_p, ldE_f, ldE_t, rdA_u, stE_p, cells_int, cells_bool, cells_ptr, cells_slice, cells_func, cells_agg, bin_add, bin_sub, bin_mul, bin_eql, bin_neq, bin_lss, bin_leq, bin_gtr, bin_geq, bin_eqlb, bin_neqb, bin_eqlp, bin_eqlp0, bin_neqp, bin_neqp0, bin_eqls, bin_eqls0, un_not, un_neg, len_s, cap_s, ex_t, cv_i, callV_f, Option.bind_some, Option.map_some, Nat.zero_add, Nat.add_zero, Nat.reduceAdd, Nat.reduceMul, size_newB, size_setB, blk_newB_self, own_newB_self, wrA_b, own_setB_m, blk_setB_m, setB_setB, List.getElem?_toArray, List.getElem?_cons_zero, List.getElem?_cons_succ, List.length_cons, List.length_nil, List.all_cons, List.all_nil, isCell_int, isCell_bool, isCell_ptr, isCell_slice, isCell_func, Bool.and_true, Bool.and_self, and_self, if_true, List.size_toArray, and_true, true_and, Nat.reduceLeDiff, Nat.le_refl, Bool.not_true, Bool.not_false, Bool.true_and, Bool.false_and, Bool.and_false, Int.reduceBNe, Int.reduceBEq, Int.reduceLT, Int.reduceLE, decide_true, decide_false, own_blk h, setC_0, h0']
  exact hR
theorem spanis_ev {H : Heap} {n : Int} {R : Value → Heap → Prop} (hR : R (.bool (decide (0 ≤ n ∧ n ≤ 9007199254740991))) H) : EvF P N.span_is #[iv n] H R := by
  refine z113_ev _ _ _ ?_
  simp only [z113_g5, z113_g6, span_is]
  try simp only [bnd_some, brV_t, brV_f, brG_t, brG_f, newE_u, pickE_t, pickE_f, nilV_p, faV_p, ldE_f, ldE_t, rdA_u, stE_p, cells_int, cells_bool, cells_ptr, cells_slice, cells_func, cells_agg, bin_add, bin_sub, bin_mul, bin_eql, bin_neq, bin_lss, bin_leq, bin_gtr, bin_geq, bin_eqlb, bin_neqb, bin_eqlp, bin_eqlp0, bin_neqp, bin_neqp0, bin_eqls, bin_eqls0, un_not, un_neg, len_s, cap_s, ex_t, cv_i, callV_f, Option.bind_some, Option.map_some, Nat.zero_add, Nat.add_zero, Nat.reduceAdd, Nat.reduceMul, size_newB, size_setB, blk_newB_self, own_newB_self, wrA_b, own_setB_m, blk_setB_m, setB_setB, List.getElem?_toArray, List.getElem?_cons_zero, List.getElem?_cons_succ, List.length_cons, List.length_nil, List.all_cons, List.all_nil, isCell_int, isCell_bool, isCell_ptr, isCell_slice, isCell_func, Bool.and_true, Bool.and_self, and_self, if_true, List.size_toArray, and_true, true_and, Nat.reduceLeDiff, Nat.le_refl, Bool.not_true, Bool.not_false, Bool.true_and, Bool.false_and, Bool.and_false, Int.reduceBNe, Int.reduceBEq, Int.reduceLT, Int.reduceLE, decide_true, decide_false]
  refine brV_d (fun h => ?_) (fun h => ?_)
  · simpa [h] using hR
  · simpa [h] using hR
theorem spanNew_ev {H : Heap} {room : Int} {R : Value → Heap → Prop} (hbad : (room < 1 ∨ 256 < room) → R (.tuple #[.pointer none, iv 2]) H)
    (hR : ∀ H' (n : Nat), room = n → Ext [] H H' → SetH H' H.size n [] [H.size] → R (.tuple #[ptr H.size, iv 0]) H') : EvF P N.span_New #[iv room] H R := by
  refine z44_ev _ _ _ ?_
  have hb : buildV #[.int .i64 0, .slice none 0 0] (places [(0, 1), (1, 1)]) [(0, iv room)] = some (.agg (setC room (.slice none 0 0))) := rfl
  simp only [z44_g11, z44_g12, z44_g13, z44_g14, span_New]
  try simp only [bnd_some, brV_t, brV_f, brG_t, brG_f, newE_u, pickE_t, pickE_f, nilV_p, faV_p, ldE_f, ldE_t, rdA_u, stE_p, cells_int, cells_bool, cells_ptr, cells_slice, cells_func, cells_agg, bin_add, bin_sub, bin_mul, bin_eql, bin_neq, bin_lss, bin_leq, bin_gtr, bin_geq, bin_eqlb, bin_neqb, bin_eqlp, bin_eqlp0, bin_neqp, bin_neqp0, bin_eqls, bin_eqls0, un_not, un_neg, len_s, cap_s, ex_t, cv_i, callV_f, Option.bind_some, Option.map_some, Nat.zero_add, Nat.add_zero, Nat.reduceAdd, Nat.reduceMul, size_newB, size_setB, blk_newB_self, own_newB_self, wrA_b, own_setB_m, blk_setB_m, setB_setB, List.getElem?_toArray, List.getElem?_cons_zero, List.getElem?_cons_succ, List.length_cons, List.length_nil, List.all_cons, List.all_nil, isCell_int, isCell_bool, isCell_ptr, isCell_slice, isCell_func, Bool.and_true, Bool.and_self, and_self, if_true, List.size_toArray, and_true, true_and, Nat.reduceLeDiff, Nat.le_refl, Bool.not_true, Bool.not_false, Bool.true_and, Bool.false_and, Bool.and_false, Int.reduceBNe, Int.reduceBEq, Int.reduceLT, Int.reduceLE, decide_true, decide_false, hb]
  refine brV_d (fun h => ?_) (fun h => ?_)
  · exact hbad (.inl h)
  · refine brV_d (fun h2 => ?_) (fun h2 => ?_)
    · exact hbad (.inr h2)
    · refine hR _ room.toNat (by omega) ((Ext.refl _ _).newB _ _) ⟨⟨.slice none 0 0, [], ?_, .nil, rfl, by simp⟩, by omega, Okr.nil, by simp⟩
      rw [own_newB_self, show ((room.toNat : Nat) : Int) = room from by omega]

/-- a set's search -/
theorem first_ev {H : Heap} {s : Nat} {room : Nat} {rs : List Rng} {T : List Nat} {n : Int} {R : Value → Heap → Prop} (h : SetH H s room rs T)
    (hR : ∀ H', Ext [] H H' → R (iv (lowI n rs)) H') : EvF P N.span_Set_first #[ptr s, iv n] H R := by
  refine z114_ev _ _ _ _ ?_
  obtain ⟨⟨v, T', ho, hl, rfl, hn⟩, hr, hok, hf⟩ := h
  have hlt := own_lt ho
  have en : ∀ t c t' c', Ext [] H (newB (newB H t c) t' c') := fun t c t' c' => ((Ext.refl _ _).newB _ _).newB _ _
  simp only [z114_g5, z114_g6, span_Set_first]
  try simp only [bnd_some, brV_t, brV_f, brG_t, brG_f, newE_u, pickE_t, pickE_f, nilV_p, faV_p, ldE_f, ldE_t, rdA_u, stE_p, cells_int, cells_bool, cells_ptr, cells_slice, cells_func, cells_agg, bin_add, bin_sub, bin_mul, bin_eql, bin_neq, bin_lss, bin_leq, bin_gtr, bin_geq, bin_eqlb, bin_neqb, bin_eqlp, bin_eqlp0, bin_neqp, bin_neqp0, bin_eqls, bin_eqls0, un_not, un_neg, len_s, cap_s, ex_t, cv_i, callV_f, Option.bind_some, Option.map_some, Nat.zero_add, Nat.add_zero, Nat.reduceAdd, Nat.reduceMul, size_newB, size_setB, blk_newB_self, own_newB_self, wrA_b, own_setB_m, blk_setB_m, setB_setB, List.getElem?_toArray, List.getElem?_cons_zero, List.getElem?_cons_succ, List.length_cons, List.length_nil, List.all_cons, List.all_nil, isCell_int, isCell_bool, isCell_ptr, isCell_slice, isCell_func, Bool.and_true, Bool.and_self, and_self, if_true, List.size_toArray, and_true, true_and, Nat.reduceLeDiff, Nat.le_refl, Bool.not_true, Bool.not_false, Bool.true_and, Bool.false_and, Bool.and_false, Int.reduceBNe, Int.reduceBEq, Int.reduceLT, Int.reduceLE, decide_true, decide_false]
  generalize hK : newB (newB H _ _) _ _ = K
  have e0 : Ext [] H K := by rw [← hK]; exact en _ _ _ _
  have q1 : blk K H.size = some #[ptr s] := by rw [← hK, blk_newB_ne (by rw [size_newB]; omega), blk_newB_self]
  have q2 : blk K (H.size + 1) = some #[iv n] := by rw [← hK, ← size_newB H _ #[ptr s], blk_newB_self]
  have ho' := e0.own ho (by simp)
  have hl' := hl.ext e0 (by simp)
  try simp only [bnd_some, brV_t, brV_f, brG_t, brG_f, newE_u, pickE_t, pickE_f, nilV_p, faV_p, ldE_f, ldE_t, rdA_u, stE_p, cells_int, cells_bool, cells_ptr, cells_slice, cells_func, cells_agg, bin_add, bin_sub, bin_mul, bin_eql, bin_neq, bin_lss, bin_leq, bin_gtr, bin_geq, bin_eqlb, bin_neqb, bin_eqlp, bin_eqlp0, bin_neqp, bin_neqp0, bin_eqls, bin_eqls0, un_not, un_neg, len_s, cap_s, ex_t, cv_i, callV_f, Option.bind_some, Option.map_some, Nat.zero_add, Nat.add_zero, Nat.reduceAdd, Nat.reduceMul, size_newB, size_setB, blk_newB_self, own_newB_self, wrA_b, own_setB_m, blk_setB_m, setB_setB, List.getElem?_toArray, List.getElem?_cons_zero, List.getElem?_cons_succ, List.length_cons, List.length_nil, List.all_cons, List.all_nil, isCell_int, isCell_bool, isCell_ptr, isCell_slice, isCell_func, Bool.and_true, Bool.and_self, and_self, if_true, List.size_toArray, and_true, true_and, Nat.reduceLeDiff, Nat.le_refl, Bool.not_true, Bool.not_false, Bool.true_and, Bool.false_and, Bool.and_false, Int.reduceBNe, Int.reduceBEq, Int.reduceLT, Int.reduceLE, decide_true, decide_false, q1, own_blk ho', setC_1, hl'.len]
  refine Search_ev (g := fun i => decide (n ≤ (rs.getD i (0, 0)).2)) (by omega) (fun i hi Q hQ => ?_) (fun i j hij hj hg => ?_) (fun k hk ha hb => ?_)
  · try simp only [bnd_some, brV_t, brV_f, brG_t, brG_f, newE_u, pickE_t, pickE_f, nilV_p, faV_p, ldE_f, ldE_t, rdA_u, stE_p, cells_int, cells_bool, cells_ptr, cells_slice, cells_func, cells_agg, bin_add, bin_sub, bin_mul, bin_eql, bin_neq, bin_lss, bin_leq, bin_gtr, bin_geq, bin_eqlb, bin_neqb, bin_eqlp, bin_eqlp0, bin_neqp, bin_neqp0, bin_eqls, bin_eqls0, un_not, un_neg, len_s, cap_s, ex_t, cv_i, callV_f, Option.bind_some, Option.map_some, Nat.zero_add, Nat.add_zero, Nat.reduceAdd, Nat.reduceMul, size_newB, size_setB, blk_newB_self, own_newB_self, wrA_b, own_setB_m, blk_setB_m, setB_setB, List.getElem?_toArray, List.getElem?_cons_zero, List.getElem?_cons_succ, List.length_cons, List.length_nil, List.all_cons, List.all_nil, isCell_int, isCell_bool, isCell_ptr, isCell_slice, isCell_func, Bool.and_true, Bool.and_self, and_self, if_true, List.size_toArray, and_true, true_and, Nat.reduceLeDiff, Nat.le_refl, Bool.not_true, Bool.not_false, Bool.true_and, Bool.false_and, Bool.and_false, Int.reduceBNe, Int.reduceBEq, Int.reduceLT, Int.reduceLE, decide_true, decide_false, Array.toList_empty, List.nil_append, List.cons_append]
    refine z156_ev _ _ _ _ _ ?_
    obtain ⟨b, o, c, i1, i2, i3, i4⟩ := hl'.show.ix (by decide) hi (rfl : (i : Int) = i)
    have i1' : ixSV 2 v (iv i) = _ := i1
    have i5 : c[o + 1]? = some (iv rs[i].2) := i3 1 (by decide)
    simp only [z156_g5, z156_g6, span_Set_first_1]
    try simp only [bnd_some, brV_t, brV_f, brG_t, brG_f, newE_u, pickE_t, pickE_f, nilV_p, faV_p, ldE_f, ldE_t, rdA_u, stE_p, cells_int, cells_bool, cells_ptr, cells_slice, cells_func, cells_agg, bin_add, bin_sub, bin_mul, bin_eql, bin_neq, bin_lss, bin_leq, bin_gtr, bin_geq, bin_eqlb, bin_neqb, bin_eqlp, bin_eqlp0, bin_neqp, bin_neqp0, bin_eqls, bin_eqls0, un_not, un_neg, len_s, cap_s, ex_t, cv_i, callV_f, Option.bind_some, Option.map_some, Nat.zero_add, Nat.add_zero, Nat.reduceAdd, Nat.reduceMul, size_newB, size_setB, blk_newB_self, own_newB_self, wrA_b, own_setB_m, blk_setB_m, setB_setB, List.getElem?_toArray, List.getElem?_cons_zero, List.getElem?_cons_succ, List.length_cons, List.length_nil, List.all_cons, List.all_nil, isCell_int, isCell_bool, isCell_ptr, isCell_slice, isCell_func, Bool.and_true, Bool.and_self, and_self, if_true, List.size_toArray, and_true, true_and, Nat.reduceLeDiff, Nat.le_refl, Bool.not_true, Bool.not_false, Bool.true_and, Bool.false_and, Bool.and_false, Int.reduceBNe, Int.reduceBEq, Int.reduceLT, Int.reduceLE, decide_true, decide_false, q1, q2, own_blk ho', setC_1, i1', i2, i5]
    rw [getD_at hi] at hQ; exact hQ
  · rw [getD_at (by omega)] at hg
    rw [getD_at hj]
    have := (hok.le2 hij hj).1
    simp only [decide_eq_true_eq] at hg ⊢; omega
  · have : lowI n rs = k := by
      refine fi_eq hk (fun i h h1 => ?_) (fun h => ?_)
      · have := ha i h1
        rw [getD_at h] at this
        simp only [decide_eq_false_iff_not] at this
        simp only [decide_eq_true_eq]; omega
      · have := hb k (Nat.le_refl _) h
        rw [getD_at h] at this
        simp only [decide_eq_true_eq] at this
        simp only [decide_eq_false_iff_not]; omega
    rw [← this]; exact hR K e0

/-- the last part of Add -/
theorem Add_s50 {H : Heap} {s a c : Nat} {room : Nat} {rs : List Rng} {T : List Nat} {f t : Nat} {x : Rng} {R : Value → Heap → Prop} (h : SetH H s room rs T) (ha : blk H a = some #[ptr s]) (hc : blk H c = some (rngC x))
    (haT : a ∉ T) (hft : f ≤ t) (ht : t ≤ rs.length) (hfull : room < rs.length - (t - f) + 1 → R (iv 5) H)
    (hR : rs.length - (t - f) + 1 ≤ room → ∀ H' T', Ext T H H' → (∀ b ∈ T', b ∈ T ∨ H.size ≤ b) → SetV H' s room (rs.take f ++ x :: rs.drop t) T' → R (iv 0) H') :
    z63_s50 (ptr a) (iv f) (iv t) (ptr c) R H := by
  obtain ⟨⟨v, T', ho, hl, rfl, hn⟩, hr, hok, hfw⟩ := h
  have w1 : IntKind.i64.wrap ((t : Int) - (f : Int)) = ((t - f : Nat) : Int) := by rw [wrap_in (by omega)]; omega
  have w2 : IntKind.i64.wrap ((rs.length : Int) - ((t - f : Nat) : Int)) = ((rs.length - (t - f) : Nat) : Int) := by rw [wrap_in (by omega)]; omega
  have w3 : IntKind.i64.wrap (((rs.length - (t - f) : Nat) : Int) + 1) = ((rs.length - (t - f) + 1 : Nat) : Int) := by rw [wrap_in (by omega)]; omega
  have hsa : a ≠ s := fun e => haT (by simp [e])
  simp only [z63_s50, z63_g51, z63_g52, z63_g53, z63_g54]
  try simp only [bnd_some, brV_t, brV_f, brG_t, brG_f, newE_u, pickE_t, pickE_f, nilV_p, faV_p, ldE_f, ldE_t, rdA_u, stE_p, cells_int, cells_bool, cells_ptr, cells_slice, cells_func, cells_agg, bin_add, bin_sub, bin_mul, bin_eql, bin_neq, bin_lss, bin_leq, bin_gtr, bin_geq, bin_eqlb, bin_neqb, bin_eqlp, bin_eqlp0, bin_neqp, bin_neqp0, bin_eqls, bin_eqls0, un_not, un_neg, len_s, cap_s, ex_t, cv_i, callV_f, Option.bind_some, Option.map_some, Nat.zero_add, Nat.add_zero, Nat.reduceAdd, Nat.reduceMul, size_newB, size_setB, blk_newB_self, own_newB_self, wrA_b, own_setB_m, blk_setB_m, setB_setB, List.getElem?_toArray, List.getElem?_cons_zero, List.getElem?_cons_succ, List.length_cons, List.length_nil, List.all_cons, List.all_nil, isCell_int, isCell_bool, isCell_ptr, isCell_slice, isCell_func, Bool.and_true, Bool.and_self, and_self, if_true, List.size_toArray, and_true, true_and, Nat.reduceLeDiff, Nat.le_refl, Bool.not_true, Bool.not_false, Bool.true_and, Bool.false_and, Bool.and_false, Int.reduceBNe, Int.reduceBEq, Int.reduceLT, Int.reduceLE, decide_true, decide_false, ha, own_blk ho, setC_0, setC_1, hl.len, w1, w2, w3]
  refine brV_d (fun hlt => ?_) (fun hge => ?_)
  · exact hfull (by omega)
  · try simp only [bnd_some, brV_t, brV_f, brG_t, brG_f, newE_u, pickE_t, pickE_f, nilV_p, faV_p, ldE_f, ldE_t, rdA_u, stE_p, cells_int, cells_bool, cells_ptr, cells_slice, cells_func, cells_agg, bin_add, bin_sub, bin_mul, bin_eql, bin_neq, bin_lss, bin_leq, bin_gtr, bin_geq, bin_eqlb, bin_neqb, bin_eqlp, bin_eqlp0, bin_neqp, bin_neqp0, bin_eqls, bin_eqls0, un_not, un_neg, len_s, cap_s, ex_t, cv_i, callV_f, Option.bind_some, Option.map_some, Nat.zero_add, Nat.add_zero, Nat.reduceAdd, Nat.reduceMul, size_newB, size_setB, blk_newB_self, own_newB_self, wrA_b, own_setB_m, blk_setB_m, setB_setB, List.getElem?_toArray, List.getElem?_cons_zero, List.getElem?_cons_succ, List.length_cons, List.length_nil, List.all_cons, List.all_nil, isCell_int, isCell_bool, isCell_ptr, isCell_slice, isCell_func, Bool.and_true, Bool.and_self, and_self, if_true, List.size_toArray, and_true, true_and, Nat.reduceLeDiff, Nat.le_refl, Bool.not_true, Bool.not_false, Bool.true_and, Bool.false_and, Bool.and_false, Int.reduceBNe, Int.reduceBEq, Int.reduceLT, Int.reduceLE, decide_true, decide_false, hc, rngC_g]
    refine bslE_1 (E := rngE) (a := x) rfl (fun H1 z1 e1 o1 => ?_) (by decide)
    have ho1 := e1.own ho (by simp)
    have ha1 := e1.blk ha (by simp)
    have hl1 := hl.ext e1 (by simp)
    have hlt := hl.lt
    try simp only [bnd_some, brV_t, brV_f, brG_t, brG_f, newE_u, pickE_t, pickE_f, nilV_p, faV_p, ldE_f, ldE_t, rdA_u, stE_p, cells_int, cells_bool, cells_ptr, cells_slice, cells_func, cells_agg, bin_add, bin_sub, bin_mul, bin_eql, bin_neq, bin_lss, bin_leq, bin_gtr, bin_geq, bin_eqlb, bin_neqb, bin_eqlp, bin_eqlp0, bin_neqp, bin_neqp0, bin_eqls, bin_eqls0, un_not, un_neg, len_s, cap_s, ex_t, cv_i, callV_f, Option.bind_some, Option.map_some, Nat.zero_add, Nat.add_zero, Nat.reduceAdd, Nat.reduceMul, size_newB, size_setB, blk_newB_self, own_newB_self, wrA_b, own_setB_m, blk_setB_m, setB_setB, List.getElem?_toArray, List.getElem?_cons_zero, List.getElem?_cons_succ, List.length_cons, List.length_nil, List.all_cons, List.all_nil, isCell_int, isCell_bool, isCell_ptr, isCell_slice, isCell_func, Bool.and_true, Bool.and_self, and_self, if_true, List.size_toArray, and_true, true_and, Nat.reduceLeDiff, Nat.le_refl, Bool.not_true, Bool.not_false, Bool.true_and, Bool.false_and, Bool.and_false, Int.reduceBNe, Int.reduceBEq, Int.reduceLT, Int.reduceLE, decide_true, decide_false, ha1, own_blk ho1, setC_1, and_true, true_and]
    refine Replace_ev hl1 o1 (fun b hb hb' => ?_) hft ht (by omega) fun v' S' H2 e2 hS2 o2 => ?_
    · simp at hb; subst hb; have := hlt _ hb'; omega
    have hne : ∀ b ∈ S', b ≠ s := fun b hb e => by
      subst e
      rcases hS2 _ hb with h | h
      · exact hn h
      · have := own_lt ho1; omega
    have ho2 := e2.own ho1 hn
    have ha2 := e2.blk ha1 (fun hm => haT (by simp [hm]))
    obtain ⟨c1, c2⟩ := o2.cell
    try simp only [bnd_some, brV_t, brV_f, brG_t, brG_f, newE_u, pickE_t, pickE_f, nilV_p, faV_p, ldE_f, ldE_t, rdA_u, stE_p, cells_int, cells_bool, cells_ptr, cells_slice, cells_func, cells_agg, bin_add, bin_sub, bin_mul, bin_eql, bin_neq, bin_lss, bin_leq, bin_gtr, bin_geq, bin_eqlb, bin_neqb, bin_eqlp, bin_eqlp0, bin_neqp, bin_neqp0, bin_eqls, bin_eqls0, un_not, un_neg, len_s, cap_s, ex_t, cv_i, callV_f, Option.bind_some, Option.map_some, Nat.zero_add, Nat.add_zero, Nat.reduceAdd, Nat.reduceMul, size_newB, size_setB, blk_newB_self, own_newB_self, wrA_b, own_setB_m, blk_setB_m, setB_setB, List.getElem?_toArray, List.getElem?_cons_zero, List.getElem?_cons_succ, List.length_cons, List.length_nil, List.all_cons, List.all_nil, isCell_int, isCell_bool, isCell_ptr, isCell_slice, isCell_func, Bool.and_true, Bool.and_self, and_self, if_true, List.size_toArray, and_true, true_and, Nat.reduceLeDiff, Nat.le_refl, Bool.not_true, Bool.not_false, Bool.true_and, Bool.false_and, Bool.and_false, Int.reduceBNe, Int.reduceBEq, Int.reduceLT, Int.reduceLE, decide_true, decide_false, ha2, c1, List.length_singleton, ho2, setC_s, setC_w, c2]
    have e3 : Ext [s] H2 (setB H2 s (setC room v')) := (Ext.refl _ _).setB _ _ (Or.inl (by simp))
    refine hR (by omega) _ (s :: S') (((e1.mono (by simp)).thru e2 (fun b hb => Or.inl (by simp [hb]))).thru e3 (by simp)) (fun b hb => ?_) ⟨v', S', own_setB_same ho2, o2.ext e3 (fun b hb => by simp; exact hne b hb), rfl, fun hm => hne _ hm rfl⟩
    rcases List.mem_cons.1 hb with rfl | hb
    · exact .inl (by simp)
    · rcases hS2 b hb with h | h
      · exact .inl (by simp [h])
      · exact .inr (by omega)
end Go.Hc
set_option linter.unusedSimpArgs false
set_option linter.unusedVariables false
namespace Go.Hc
open Go

def badR (lo hi : Int) : Prop := ¬ (0 ≤ lo ∧ lo ≤ 9007199254740991) ∨ ¬ (0 ≤ hi ∧ hi ≤ 9007199254740991) ∨ hi < lo
instance (lo hi : Int) : Decidable (badR lo hi) := inferInstanceAs (Decidable (¬ (0 ≤ lo ∧ lo ≤ 9007199254740991) ∨ ¬ (0 ≤ hi ∧ hi ≤ 9007199254740991) ∨ hi < lo))
def addE (room : Nat) (rs : List Rng) (lo hi : Int) : Int := if badR lo hi then 2 else if room < (addL rs lo hi).length then 5 else 0
def addS (room : Nat) (rs : List Rng) (lo hi : Int) : List Rng := if addE room rs lo hi = 0 then addL rs lo hi else rs
theorem min_iv {a b : Int} : foldV min2V (iv a) [iv b] = some (iv (min a b)) := by
  simp only [foldV, min2V]; congr 2; omega
theorem max_iv {a b : Int} : foldV max2V (iv a) [iv b] = some (iv (max a b)) := by
  simp only [foldV, max2V]; congr 2; omega
theorem Add_s45_t {x1 x3 x5 : Value} {H : Heap} {R : Value → Heap → Prop} (hR : R (iv 2) H) : z63_s45 x1 x3 x5 (.bool true) R H := by
  simp only [z63_s45, z63_g46]
  try simp only [bnd_some, brV_t, brV_f, brG_t, brG_f, newE_u, pickE_t, pickE_f, nilV_p, faV_p, ldE_f, ldE_t, rdA_u, stE_p, cells_int, cells_bool, cells_ptr, cells_slice, cells_func, cells_agg, bin_add, bin_sub, bin_mul, bin_eql, bin_neq, bin_lss, bin_leq, bin_gtr, bin_geq, bin_eqlb, bin_neqb, bin_eqlp, bin_eqlp0, bin_neqp, bin_neqp0, bin_eqls, bin_eqls0, un_not, un_neg, len_s, cap_s, ex_t, cv_i, callV_f, Option.bind_some, Option.map_some, Nat.zero_add, Nat.add_zero, Nat.reduceAdd, Nat.reduceMul, size_newB, size_setB, blk_newB_self, own_newB_self, wrA_b, own_setB_m, blk_setB_m, setB_setB, List.getElem?_toArray, List.getElem?_cons_zero, List.getElem?_cons_succ, List.length_cons, List.length_nil, List.all_cons, List.all_nil, isCell_int, isCell_bool, isCell_ptr, isCell_slice, isCell_func, Bool.and_true, Bool.and_self, and_self, if_true, List.size_toArray, and_true, true_and, Nat.reduceLeDiff, Nat.le_refl, Bool.not_true, Bool.not_false, Bool.true_and, Bool.false_and, Bool.and_false, Int.reduceBNe, Int.reduceBEq, Int.reduceLT, Int.reduceLE, decide_true, decide_false]; exact hR
theorem Add_s45_f {H : Heap} {s a a2 : Nat} {room : Nat} {rs : List Rng} {T : List Nat} {lo hi : Int} {R : Value → Heap → Prop} (h : SetH H s room rs T) (ha : own H a = some #[ptr s]) (ha2 : own H a2 = some #[iv hi]) (haT : a ∉ T)
    (hg : ¬ badR lo hi) (hfull : room < (addL rs lo hi).length → ∀ H', Ext [] H H' → R (iv 5) H')
    (hR : (addL rs lo hi).length ≤ room → ∀ H' T', Ext T H H' → (∀ b ∈ T', b ∈ T ∨ H.size ≤ b) → SetV H' s room (addL rs lo hi) T' → R (iv 0) H') :
    z63_s45 (iv lo) (ptr a) (ptr a2) (.bool false) R H := by
  have hg' : 0 ≤ lo ∧ lo ≤ hi ∧ hi ≤ 9007199254740991 := by
    simp only [badR] at hg; omega
  have w1 : IntKind.i64.wrap (lo - 1) = lo - 1 := wrap_in (by omega)
  have hlen := addL_len h.ok hg'.2.1
  have hft := low_top h.ok hg'.2.1
  have ht : topI (hi + 1) rs ≤ rs.length := fi_le _ _
  simp only [z63_s45, z63_g47, z63_g48, z63_g49, z63_g56, z63_g57]
  try simp only [bnd_some, brV_t, brV_f, brG_t, brG_f, newE_u, pickE_t, pickE_f, nilV_p, faV_p, ldE_f, ldE_t, rdA_u, stE_p, cells_int, cells_bool, cells_ptr, cells_slice, cells_func, cells_agg, bin_add, bin_sub, bin_mul, bin_eql, bin_neq, bin_lss, bin_leq, bin_gtr, bin_geq, bin_eqlb, bin_neqb, bin_eqlp, bin_eqlp0, bin_neqp, bin_neqp0, bin_eqls, bin_eqls0, un_not, un_neg, len_s, cap_s, ex_t, cv_i, callV_f, Option.bind_some, Option.map_some, Nat.zero_add, Nat.add_zero, Nat.reduceAdd, Nat.reduceMul, size_newB, size_setB, blk_newB_self, own_newB_self, wrA_b, own_setB_m, blk_setB_m, setB_setB, List.getElem?_toArray, List.getElem?_cons_zero, List.getElem?_cons_succ, List.length_cons, List.length_nil, List.all_cons, List.all_nil, isCell_int, isCell_bool, isCell_ptr, isCell_slice, isCell_func, Bool.and_true, Bool.and_self, and_self, if_true, List.size_toArray, and_true, true_and, Nat.reduceLeDiff, Nat.le_refl, Bool.not_true, Bool.not_false, Bool.true_and, Bool.false_and, Bool.and_false, Int.reduceBNe, Int.reduceBEq, Int.reduceLT, Int.reduceLE, decide_true, decide_false, own_blk ha, w1]
  refine first_ev h fun H1 e1 => ?_
  have h1 := h.ext e1 (by simp)
  have ha1 := e1.own ha (by simp)
  have ha21 := e1.own ha2 (by simp)
  have ho1 := h1.rep
  obtain ⟨v, T', ho, hl, rfl, hn⟩ := ho1
  try simp only [bnd_some, brV_t, brV_f, brG_t, brG_f, newE_u, pickE_t, pickE_f, nilV_p, faV_p, ldE_f, ldE_t, rdA_u, stE_p, cells_int, cells_bool, cells_ptr, cells_slice, cells_func, cells_agg, bin_add, bin_sub, bin_mul, bin_eql, bin_neq, bin_lss, bin_leq, bin_gtr, bin_geq, bin_eqlb, bin_neqb, bin_eqlp, bin_eqlp0, bin_neqp, bin_neqp0, bin_eqls, bin_eqls0, un_not, un_neg, len_s, cap_s, ex_t, cv_i, callV_f, Option.bind_some, Option.map_some, Nat.zero_add, Nat.add_zero, Nat.reduceAdd, Nat.reduceMul, size_newB, size_setB, blk_newB_self, own_newB_self, wrA_b, own_setB_m, blk_setB_m, setB_setB, List.getElem?_toArray, List.getElem?_cons_zero, List.getElem?_cons_succ, List.length_cons, List.length_nil, List.all_cons, List.all_nil, isCell_int, isCell_bool, isCell_ptr, isCell_slice, isCell_func, Bool.and_true, Bool.and_self, and_self, if_true, List.size_toArray, and_true, true_and, Nat.reduceLeDiff, Nat.le_refl, Bool.not_true, Bool.not_false, Bool.true_and, Bool.false_and, Bool.and_false, Int.reduceBNe, Int.reduceBEq, Int.reduceLT, Int.reduceLE, decide_true, decide_false, own_blk ha1, own_blk ho, setC_1, hl.len]
  have hsm := h.few
  have hrm := h.hroom
  refine Search_ev (g := fun i => decide (hi + 1 < (rs.getD i (0, 0)).1)) (by omega) (fun i hi' Q hQ => ?_) (fun i j hij hj hgg => ?_) (fun k hk hka hkb => ?_)
  · try simp only [bnd_some, brV_t, brV_f, brG_t, brG_f, newE_u, pickE_t, pickE_f, nilV_p, faV_p, ldE_f, ldE_t, rdA_u, stE_p, cells_int, cells_bool, cells_ptr, cells_slice, cells_func, cells_agg, bin_add, bin_sub, bin_mul, bin_eql, bin_neq, bin_lss, bin_leq, bin_gtr, bin_geq, bin_eqlb, bin_neqb, bin_eqlp, bin_eqlp0, bin_neqp, bin_neqp0, bin_eqls, bin_eqls0, un_not, un_neg, len_s, cap_s, ex_t, cv_i, callV_f, Option.bind_some, Option.map_some, Nat.zero_add, Nat.add_zero, Nat.reduceAdd, Nat.reduceMul, size_newB, size_setB, blk_newB_self, own_newB_self, wrA_b, own_setB_m, blk_setB_m, setB_setB, List.getElem?_toArray, List.getElem?_cons_zero, List.getElem?_cons_succ, List.length_cons, List.length_nil, List.all_cons, List.all_nil, isCell_int, isCell_bool, isCell_ptr, isCell_slice, isCell_func, Bool.and_true, Bool.and_self, and_self, if_true, List.size_toArray, and_true, true_and, Nat.reduceLeDiff, Nat.le_refl, Bool.not_true, Bool.not_false, Bool.true_and, Bool.false_and, Bool.and_false, Int.reduceBNe, Int.reduceBEq, Int.reduceLT, Int.reduceLE, decide_true, decide_false, Array.toList_empty, List.nil_append, List.cons_append]
    refine z116_ev _ _ _ _ _ ?_
    obtain ⟨b, o, c, i1, i2, i3, i4⟩ := hl.show.ix (by decide) hi' (rfl : (i : Int) = i)
    have i1' : ixSV 2 v (iv i) = _ := i1
    have i5 : c[o]? = some (iv rs[i].1) := i3 0 (by decide)
    have w2 : IntKind.i64.wrap (hi + 1) = hi + 1 := wrap_in (by omega)
    simp only [z116_g5, z116_g6, span_Set_Add_1]
    try simp only [bnd_some, brV_t, brV_f, brG_t, brG_f, newE_u, pickE_t, pickE_f, nilV_p, faV_p, ldE_f, ldE_t, rdA_u, stE_p, cells_int, cells_bool, cells_ptr, cells_slice, cells_func, cells_agg, bin_add, bin_sub, bin_mul, bin_eql, bin_neq, bin_lss, bin_leq, bin_gtr, bin_geq, bin_eqlb, bin_neqb, bin_eqlp, bin_eqlp0, bin_neqp, bin_neqp0, bin_eqls, bin_eqls0, un_not, un_neg, len_s, cap_s, ex_t, cv_i, callV_f, Option.bind_some, Option.map_some, Nat.zero_add, Nat.add_zero, Nat.reduceAdd, Nat.reduceMul, size_newB, size_setB, blk_newB_self, own_newB_self, wrA_b, own_setB_m, blk_setB_m, setB_setB, List.getElem?_toArray, List.getElem?_cons_zero, List.getElem?_cons_succ, List.length_cons, List.length_nil, List.all_cons, List.all_nil, isCell_int, isCell_bool, isCell_ptr, isCell_slice, isCell_func, Bool.and_true, Bool.and_self, and_self, if_true, List.size_toArray, and_true, true_and, Nat.reduceLeDiff, Nat.le_refl, Bool.not_true, Bool.not_false, Bool.true_and, Bool.false_and, Bool.and_false, Int.reduceBNe, Int.reduceBEq, Int.reduceLT, Int.reduceLE, decide_true, decide_false, own_blk ha1, own_blk ha21, own_blk ho, setC_1, i1', i2, i5, w2]
    rw [getD_at hi'] at hQ; exact hQ
  · rw [getD_at (by omega)] at hgg
    rw [getD_at hj]
    have := (h.ok.le2 hij hj).2
    simp only [decide_eq_true_eq] at hgg ⊢; omega
  · have hkk : topI (hi + 1) rs = k := by
      refine fi_eq hk (fun i h h1 => ?_) (fun h => ?_)
      · have := hka i h1
        rw [getD_at h] at this
        simp only [decide_eq_false_iff_not] at this
        simp only [decide_eq_true_eq]; omega
      · have := hkb k (Nat.le_refl _) h
        rw [getD_at h] at this
        simp only [decide_eq_true_eq] at this
        simp only [decide_eq_false_iff_not]; omega
    subst hkk
    clear hka hkb hk
    have en : ∀ t c c', Ext [] H1 (setB (newB H1 t c) H1.size c') := fun t c c' => ((Ext.refl _ _).newB t c).setB _ _ (Or.inr (Nat.le_refl _))
    have hc0 : ∀ t c c', own (setB (newB H1 t c) H1.size c') H1.size = some c' := fun t c c' => own_setB_same own_newB_self
    have hlt1 := own_lt ha21
    have h5 : a2 ≠ H1.size := by omega
    have haT1 : a ∉ s :: T' := haT
    have fin : ∀ (K : Heap) (x : Rng) (c : Nat), Ext [] H1 K → own K c = some (rngC x) → x = addX rs lo hi → z63_s50 (ptr a) (iv (lowI (lo - 1) rs)) (iv (topI (hi + 1) rs)) (ptr c) R K := fun K x c eK hc hx => by
      refine Add_s50 (h1.ext eK (by simp)) (eK.blk (own_blk ha1) (by simp)) (own_blk hc) haT1 hft ht (fun hf => hfull (by omega) _ (e1.trans eK)) (fun hf K2 T2 e2 hT2 hs2 => ?_)
      have eS : Ext [] H K := e1.trans eK
      refine hR (by omega) K2 T2 ((eS.mono (by simp)).trans e2) (fun b hb => (hT2 b hb).imp id fun h => by have := eS.size; omega) ?_
      subst hx; exact hs2
    try simp only [bnd_some, brV_t, brV_f, brG_t, brG_f, newE_u, pickE_t, pickE_f, nilV_p, faV_p, ldE_f, ldE_t, rdA_u, stE_p, cells_int, cells_bool, cells_ptr, cells_slice, cells_func, cells_agg, bin_add, bin_sub, bin_mul, bin_eql, bin_neq, bin_lss, bin_leq, bin_gtr, bin_geq, bin_eqlb, bin_neqb, bin_eqlp, bin_eqlp0, bin_neqp, bin_neqp0, bin_eqls, bin_eqls0, un_not, un_neg, len_s, cap_s, ex_t, cv_i, callV_f, Option.bind_some, Option.map_some, Nat.zero_add, Nat.add_zero, Nat.reduceAdd, Nat.reduceMul, size_newB, size_setB, blk_newB_self, own_newB_self, wrA_b, own_setB_m, blk_setB_m, setB_setB, List.getElem?_toArray, List.getElem?_cons_zero, List.getElem?_cons_succ, List.length_cons, List.length_nil, List.all_cons, List.all_nil, isCell_int, isCell_bool, isCell_ptr, isCell_slice, isCell_func, Bool.and_true, Bool.and_self, and_self, if_true, List.size_toArray, and_true, true_and, Nat.reduceLeDiff, Nat.le_refl, Bool.not_true, Bool.not_false, Bool.true_and, Bool.false_and, Bool.and_false, Int.reduceBNe, Int.reduceBEq, Int.reduceLT, Int.reduceLE, decide_true, decide_false, blk_newB_ne h5, own_newB_ne h5, own_blk ha21, rng_b, rng_b0, rngC_s, rngC_l, rngC_a, rng0, rngC_w]
    refine brV_d (fun hlt => ?_) (fun hge => ?_)
    · have hlt : lowI (lo - 1) rs < topI (hi + 1) rs := by omega
      generalize hK : setB (newB H1 _ _) _ _ = K
      have eK : Ext [] H1 K := by rw [← hK]; exact en _ _ _
      have hcK : own K H1.size = some (rngC (lo, hi)) := by rw [← hK]; exact hc0 _ _ _
      have haK := eK.own ha1 (by simp)
      have ha2K := eK.own ha21 (by simp)
      have hoK := eK.own ho (by simp)
      have hlK := hl.ext eK (by simp)
      obtain ⟨b, o, c, i1, i2, i3, i4⟩ := hlK.show.ix (by decide) (show lowI (lo - 1) rs < rs.length by omega) (rfl : (lowI (lo - 1) rs : Int) = (lowI (lo - 1) rs : Nat))
      have i1' : ixSV 2 v (iv (lowI (lo - 1) rs)) = _ := i1
      have i5 : c[o]? = some (iv (rs[lowI (lo - 1) rs]'(by omega)).1) := i3 0 (by decide)
      obtain ⟨b', o', c', j1, j2, j3, j4⟩ := hlK.show.ix (by decide) (show topI (hi + 1) rs - 1 < rs.length by omega) (rfl : ((topI (hi + 1) rs - 1 : Nat) : Int) = (topI (hi + 1) rs - 1 : Nat))
      have j1' : ixSV 2 v (iv ((topI (hi + 1) rs - 1 : Nat) : Int)) = _ := j1
      have j5 : c'[o' + 1]? = some (iv (rs[topI (hi + 1) rs - 1]'(by omega)).2) := j3 1 (by decide)
      have w3 : IntKind.i64.wrap ((topI (hi + 1) rs : Int) - 1) = ((topI (hi + 1) rs - 1 : Nat) : Int) := by rw [wrap_in (by omega)]; omega
      try simp only [bnd_some, brV_t, brV_f, brG_t, brG_f, newE_u, pickE_t, pickE_f, nilV_p, faV_p, ldE_f, ldE_t, rdA_u, stE_p, cells_int, cells_bool, cells_ptr, cells_slice, cells_func, cells_agg, bin_add, bin_sub, bin_mul, bin_eql, bin_neq, bin_lss, bin_leq, bin_gtr, bin_geq, bin_eqlb, bin_neqb, bin_eqlp, bin_eqlp0, bin_neqp, bin_neqp0, bin_eqls, bin_eqls0, un_not, un_neg, len_s, cap_s, ex_t, cv_i, callV_f, Option.bind_some, Option.map_some, Nat.zero_add, Nat.add_zero, Nat.reduceAdd, Nat.reduceMul, size_newB, size_setB, blk_newB_self, own_newB_self, wrA_b, own_setB_m, blk_setB_m, setB_setB, List.getElem?_toArray, List.getElem?_cons_zero, List.getElem?_cons_succ, List.length_cons, List.length_nil, List.all_cons, List.all_nil, isCell_int, isCell_bool, isCell_ptr, isCell_slice, isCell_func, Bool.and_true, Bool.and_self, and_self, if_true, List.size_toArray, and_true, true_and, Nat.reduceLeDiff, Nat.le_refl, Bool.not_true, Bool.not_false, Bool.true_and, Bool.false_and, Bool.and_false, Int.reduceBNe, Int.reduceBEq, Int.reduceLT, Int.reduceLE, decide_true, decide_false, own_blk haK, own_blk ha2K, own_blk hoK, setC_1, i1', i2, i5, min_iv, w3, j1', j2, j5, max_iv, rng_b, rng_b0, rngC_s, hcK, rngC_l, rngC_a, rngC_w]
      refine fin _ _ _ (en _ _ _) (hc0 _ _ _) ?_
      unfold addX
      rw [if_pos hlt, getD_at (by omega), getD_at (i := topI (hi + 1) rs - 1) (by omega)]
    · refine fin _ _ _ (en _ _ _) (hc0 _ _ _) ?_
      unfold addX
      rw [if_neg (by omega)]
theorem Add_ev {H : Heap} {s : Nat} {room : Nat} {rs : List Rng} {T : List Nat} {lo hi : Int} {R : Value → Heap → Prop} (h : SetH H s room rs T)
    (hR : ∀ H' T', Ext T H H' → (∀ b ∈ T', b ∈ T ∨ H.size ≤ b) → SetH H' s room (addS room rs lo hi) T' → R (iv (addE room rs lo hi)) H') : EvF P N.span_Set_Add #[ptr s, iv lo, iv hi] H R := by
  refine z63_ev _ _ _ _ _ ?_
  obtain ⟨v, T', ho, hl, rfl, hn⟩ := h.rep
  have hlt := own_lt ho
  have en : ∀ t c t' c', Ext [] H (newB (newB H t c) t' c') := fun t c t' c' => ((Ext.refl _ _).newB _ _).newB _ _
  simp only [span_Set_Add, z63_g42, z63_g43, z63_g44, z63_g60, z63_g61, z63_g62]
  try simp only [bnd_some, brV_t, brV_f, brG_t, brG_f, newE_u, pickE_t, pickE_f, nilV_p, faV_p, ldE_f, ldE_t, rdA_u, stE_p, cells_int, cells_bool, cells_ptr, cells_slice, cells_func, cells_agg, bin_add, bin_sub, bin_mul, bin_eql, bin_neq, bin_lss, bin_leq, bin_gtr, bin_geq, bin_eqlb, bin_neqb, bin_eqlp, bin_eqlp0, bin_neqp, bin_neqp0, bin_eqls, bin_eqls0, un_not, un_neg, len_s, cap_s, ex_t, cv_i, callV_f, Option.bind_some, Option.map_some, Nat.zero_add, Nat.add_zero, Nat.reduceAdd, Nat.reduceMul, size_newB, size_setB, blk_newB_self, own_newB_self, wrA_b, own_setB_m, blk_setB_m, setB_setB, List.getElem?_toArray, List.getElem?_cons_zero, List.getElem?_cons_succ, List.length_cons, List.length_nil, List.all_cons, List.all_nil, isCell_int, isCell_bool, isCell_ptr, isCell_slice, isCell_func, Bool.and_true, Bool.and_self, and_self, if_true, List.size_toArray, and_true, true_and, Nat.reduceLeDiff, Nat.le_refl, Bool.not_true, Bool.not_false, Bool.true_and, Bool.false_and, Bool.and_false, Int.reduceBNe, Int.reduceBEq, Int.reduceLT, Int.reduceLE, decide_true, decide_false]
  generalize hK : newB (newB H _ _) _ _ = K
  have e0 : Ext [] H K := by rw [← hK]; exact en _ _ _ _
  have q1 : own K H.size = some #[ptr s] := by rw [← hK, own_newB_ne (by rw [size_newB]; omega), own_newB_self]
  have q2 : own K (H.size + 1) = some #[iv hi] := by rw [← hK, ← size_newB H _ #[ptr s], own_newB_self]
  have h' := h.ext e0 (by simp)
  have ho' := e0.own ho (by simp)
  have hlts := h.rep.lt
  have bad : badR lo hi → R (iv 2) K := fun hb => by
    have := hR K _ (e0.mono (by simp)) (fun b hb => .inl hb) (by
      have : addS room rs lo hi = rs := by unfold addS addE; rw [if_pos hb]; simp
      rw [this]; exact h')
    unfold addE at this; rw [if_pos hb] at this; exact this
  try simp only [bnd_some, brV_t, brV_f, brG_t, brG_f, newE_u, pickE_t, pickE_f, nilV_p, faV_p, ldE_f, ldE_t, rdA_u, stE_p, cells_int, cells_bool, cells_ptr, cells_slice, cells_func, cells_agg, bin_add, bin_sub, bin_mul, bin_eql, bin_neq, bin_lss, bin_leq, bin_gtr, bin_geq, bin_eqlb, bin_neqb, bin_eqlp, bin_eqlp0, bin_neqp, bin_neqp0, bin_eqls, bin_eqls0, un_not, un_neg, len_s, cap_s, ex_t, cv_i, callV_f, Option.bind_some, Option.map_some, Nat.zero_add, Nat.add_zero, Nat.reduceAdd, Nat.reduceMul, size_newB, size_setB, blk_newB_self, own_newB_self, wrA_b, own_setB_m, blk_setB_m, setB_setB, List.getElem?_toArray, List.getElem?_cons_zero, List.getElem?_cons_succ, List.length_cons, List.length_nil, List.all_cons, List.all_nil, isCell_int, isCell_bool, isCell_ptr, isCell_slice, isCell_func, Bool.and_true, Bool.and_self, and_self, if_true, List.size_toArray, and_true, true_and, Nat.reduceLeDiff, Nat.le_refl, Bool.not_true, Bool.not_false, Bool.true_and, Bool.false_and, Bool.and_false, Int.reduceBNe, Int.reduceBEq, Int.reduceLT, Int.reduceLE, decide_true, decide_false, own_blk q1]
  refine setnone_ev ho' h.hroom.1 ?_
  try simp only [bnd_some, brV_t, brV_f, brG_t, brG_f, newE_u, pickE_t, pickE_f, nilV_p, faV_p, ldE_f, ldE_t, rdA_u, stE_p, cells_int, cells_bool, cells_ptr, cells_slice, cells_func, cells_agg, bin_add, bin_sub, bin_mul, bin_eql, bin_neq, bin_lss, bin_leq, bin_gtr, bin_geq, bin_eqlb, bin_neqb, bin_eqlp, bin_eqlp0, bin_neqp, bin_neqp0, bin_eqls, bin_eqls0, un_not, un_neg, len_s, cap_s, ex_t, cv_i, callV_f, Option.bind_some, Option.map_some, Nat.zero_add, Nat.add_zero, Nat.reduceAdd, Nat.reduceMul, size_newB, size_setB, blk_newB_self, own_newB_self, wrA_b, own_setB_m, blk_setB_m, setB_setB, List.getElem?_toArray, List.getElem?_cons_zero, List.getElem?_cons_succ, List.length_cons, List.length_nil, List.all_cons, List.all_nil, isCell_int, isCell_bool, isCell_ptr, isCell_slice, isCell_func, Bool.and_true, Bool.and_self, and_self, if_true, List.size_toArray, and_true, true_and, Nat.reduceLeDiff, Nat.le_refl, Bool.not_true, Bool.not_false, Bool.true_and, Bool.false_and, Bool.and_false, Int.reduceBNe, Int.reduceBEq, Int.reduceLT, Int.reduceLE, decide_true, decide_false]
  refine spanis_ev ?_
  try simp only [bnd_some, brV_t, brV_f, brG_t, brG_f, newE_u, pickE_t, pickE_f, nilV_p, faV_p, ldE_f, ldE_t, rdA_u, stE_p, cells_int, cells_bool, cells_ptr, cells_slice, cells_func, cells_agg, bin_add, bin_sub, bin_mul, bin_eql, bin_neq, bin_lss, bin_leq, bin_gtr, bin_geq, bin_eqlb, bin_neqb, bin_eqlp, bin_eqlp0, bin_neqp, bin_neqp0, bin_eqls, bin_eqls0, un_not, un_neg, len_s, cap_s, ex_t, cv_i, callV_f, Option.bind_some, Option.map_some, Nat.zero_add, Nat.add_zero, Nat.reduceAdd, Nat.reduceMul, size_newB, size_setB, blk_newB_self, own_newB_self, wrA_b, own_setB_m, blk_setB_m, setB_setB, List.getElem?_toArray, List.getElem?_cons_zero, List.getElem?_cons_succ, List.length_cons, List.length_nil, List.all_cons, List.all_nil, isCell_int, isCell_bool, isCell_ptr, isCell_slice, isCell_func, Bool.and_true, Bool.and_self, and_self, if_true, List.size_toArray, and_true, true_and, Nat.reduceLeDiff, Nat.le_refl, Bool.not_true, Bool.not_false, Bool.true_and, Bool.false_and, Bool.and_false, Int.reduceBNe, Int.reduceBEq, Int.reduceLT, Int.reduceLE, decide_true, decide_false]
  refine brV_i (fun h1 => ?_) (fun h1 => ?_)
  · rw [h1]; exact Add_s45_t (bad (.inl (by simp at h1; omega)))
  · try simp only [bnd_some, brV_t, brV_f, brG_t, brG_f, newE_u, pickE_t, pickE_f, nilV_p, faV_p, ldE_f, ldE_t, rdA_u, stE_p, cells_int, cells_bool, cells_ptr, cells_slice, cells_func, cells_agg, bin_add, bin_sub, bin_mul, bin_eql, bin_neq, bin_lss, bin_leq, bin_gtr, bin_geq, bin_eqlb, bin_neqb, bin_eqlp, bin_eqlp0, bin_neqp, bin_neqp0, bin_eqls, bin_eqls0, un_not, un_neg, len_s, cap_s, ex_t, cv_i, callV_f, Option.bind_some, Option.map_some, Nat.zero_add, Nat.add_zero, Nat.reduceAdd, Nat.reduceMul, size_newB, size_setB, blk_newB_self, own_newB_self, wrA_b, own_setB_m, blk_setB_m, setB_setB, List.getElem?_toArray, List.getElem?_cons_zero, List.getElem?_cons_succ, List.length_cons, List.length_nil, List.all_cons, List.all_nil, isCell_int, isCell_bool, isCell_ptr, isCell_slice, isCell_func, Bool.and_true, Bool.and_self, and_self, if_true, List.size_toArray, and_true, true_and, Nat.reduceLeDiff, Nat.le_refl, Bool.not_true, Bool.not_false, Bool.true_and, Bool.false_and, Bool.and_false, Int.reduceBNe, Int.reduceBEq, Int.reduceLT, Int.reduceLE, decide_true, decide_false, own_blk q2]
    refine spanis_ev ?_
    try simp only [bnd_some, brV_t, brV_f, brG_t, brG_f, newE_u, pickE_t, pickE_f, nilV_p, faV_p, ldE_f, ldE_t, rdA_u, stE_p, cells_int, cells_bool, cells_ptr, cells_slice, cells_func, cells_agg, bin_add, bin_sub, bin_mul, bin_eql, bin_neq, bin_lss, bin_leq, bin_gtr, bin_geq, bin_eqlb, bin_neqb, bin_eqlp, bin_eqlp0, bin_neqp, bin_neqp0, bin_eqls, bin_eqls0, un_not, un_neg, len_s, cap_s, ex_t, cv_i, callV_f, Option.bind_some, Option.map_some, Nat.zero_add, Nat.add_zero, Nat.reduceAdd, Nat.reduceMul, size_newB, size_setB, blk_newB_self, own_newB_self, wrA_b, own_setB_m, blk_setB_m, setB_setB, List.getElem?_toArray, List.getElem?_cons_zero, List.getElem?_cons_succ, List.length_cons, List.length_nil, List.all_cons, List.all_nil, isCell_int, isCell_bool, isCell_ptr, isCell_slice, isCell_func, Bool.and_true, Bool.and_self, and_self, if_true, List.size_toArray, and_true, true_and, Nat.reduceLeDiff, Nat.le_refl, Bool.not_true, Bool.not_false, Bool.true_and, Bool.false_and, Bool.and_false, Int.reduceBNe, Int.reduceBEq, Int.reduceLT, Int.reduceLE, decide_true, decide_false]
    refine brV_i (fun h2 => ?_) (fun h2 => ?_)
    · rw [h2]; exact Add_s45_t (bad (.inr (.inl (by simp at h2; omega))))
    · try simp only [bnd_some, brV_t, brV_f, brG_t, brG_f, newE_u, pickE_t, pickE_f, nilV_p, faV_p, ldE_f, ldE_t, rdA_u, stE_p, cells_int, cells_bool, cells_ptr, cells_slice, cells_func, cells_agg, bin_add, bin_sub, bin_mul, bin_eql, bin_neq, bin_lss, bin_leq, bin_gtr, bin_geq, bin_eqlb, bin_neqb, bin_eqlp, bin_eqlp0, bin_neqp, bin_neqp0, bin_eqls, bin_eqls0, un_not, un_neg, len_s, cap_s, ex_t, cv_i, callV_f, Option.bind_some, Option.map_some, Nat.zero_add, Nat.add_zero, Nat.reduceAdd, Nat.reduceMul, size_newB, size_setB, blk_newB_self, own_newB_self, wrA_b, own_setB_m, blk_setB_m, setB_setB, List.getElem?_toArray, List.getElem?_cons_zero, List.getElem?_cons_succ, List.length_cons, List.length_nil, List.all_cons, List.all_nil, isCell_int, isCell_bool, isCell_ptr, isCell_slice, isCell_func, Bool.and_true, Bool.and_self, and_self, if_true, List.size_toArray, and_true, true_and, Nat.reduceLeDiff, Nat.le_refl, Bool.not_true, Bool.not_false, Bool.true_and, Bool.false_and, Bool.and_false, Int.reduceBNe, Int.reduceBEq, Int.reduceLT, Int.reduceLE, decide_true, decide_false, own_blk q2]
      by_cases h3 : hi < lo
      · rw [show (decide (hi < lo)) = true from by simpa using h3]
        exact Add_s45_t (bad (.inr (.inr h3)))
      · rw [show (decide (hi < lo)) = false from by simpa using h3]
        have hg : ¬ badR lo hi := by
          simp only [badR]; simp at h1 h2; omega
        have hg' : 0 ≤ lo ∧ lo ≤ hi ∧ hi ≤ 9007199254740991 := by simp only [badR] at hg; omega
        refine Add_s45_f h' q1 q2 (fun hm => by have := hlts _ hm; omega) hg (fun hf H' e' => ?_) (fun hf H' T2 e' hT2 hs2 => ?_)
        · have e2 : Ext [] H H' := e0.trans e'
          have := hR H' _ (e2.mono (by simp)) (fun b hb => .inl hb) (by
            have : addS room rs lo hi = rs := by unfold addS addE; rw [if_neg hg, if_pos hf]; simp
            rw [this]; exact h.ext e2 (by simp))
          unfold addE at this; rw [if_neg hg, if_pos hf] at this; exact this
        · have hE : addE room rs lo hi = 0 := by unfold addE; rw [if_neg hg, if_neg (by omega)]
          have := hR H' T2 ((e0.mono (by simp)).trans e') (fun b hb => (hT2 b hb).imp id fun h => by have := e0.size; omega) (by
            have : addS room rs lo hi = addL rs lo hi := by unfold addS; rw [if_pos hE]
            rw [this]; exact ⟨hs2, h.hroom, addL_ok h.ok hg'.1 hg'.2.1 hg'.2.2, hf⟩)
          rw [hE] at this; exact this
end Go.Hc
set_option linter.unusedSimpArgs false
set_option linter.unusedVariables false
namespace Go.Hc
open Go

def hasR (rs : List Rng) (n : Int) : Bool := rs.any fun r => decide (r.1 ≤ n ∧ n ≤ r.2)
def atR (rs : List Rng) (n : Int) : Option Rng := rs.find? fun r => decide (r.1 ≤ n ∧ n ≤ r.2)
def okN (n : Int) : Prop := 0 ≤ n ∧ n ≤ 9007199254740991
instance (n : Int) : Decidable (okN n) := inferInstanceAs (Decidable (0 ≤ n ∧ n ≤ 9007199254740991))
def nextR (rs : List Rng) (n : Int) : Int := if okN n then (let m := match atR rs n with | some x => x.2 + 1 | none => n; if okN m then m else -1) else -1
def maxR (rs : List Rng) : Int := match rs.getLast? with | some r => r.2 | none => -1
def minR (rs : List Rng) : Int := match rs.head? with | some r => r.1 | none => -1
def cutE (b : Int) : Int := if okN b then 0 else 2
def cutS (rs : List Rng) (b : Int) : List Rng := if okN b then cutL rs b else rs
theorem hasR_iff {rs : List Rng} {n : Int} : hasR rs n = true ↔ Mem rs n := by
  simp [hasR, Mem, List.any_eq_true]
theorem hasR_at {rs : List Rng} {n : Int} : hasR rs n = (atR rs n).isSome := by
  unfold hasR atR
  rw [Bool.eq_iff_iff, List.find?_isSome, List.any_eq_true]
theorem atR_low {rs : List Rng} (h : Okr rs) {n : Int} : atR rs n = if hl : lowI n rs < rs.length then (if (rs[lowI n rs]).1 ≤ n then some rs[lowI n rs] else none) else none := by
  have before : ∀ i (hi : i < rs.length), i < lowI n rs → ¬ (rs[i].1 ≤ n ∧ n ≤ rs[i].2) := fun i hi h1 h2 => by have := lowI_lt hi h1; omega
  have none_of : (∀ i (hi : i < rs.length), ¬ (rs[i].1 ≤ n ∧ n ≤ rs[i].2)) → atR rs n = none := fun hh => by
    unfold atR
    rw [List.find?_eq_none]
    intro x hx
    obtain ⟨i, hi, rfl⟩ := List.getElem_of_mem hx
    simpa using hh i hi
  split
  · rename_i hl
    have hge := lowI_ge h hl (Nat.le_refl _)
    split
    · rename_i hle
      have hs : (atR rs n).isSome := by
        unfold atR; rw [List.find?_isSome]
        exact ⟨_, List.getElem_mem hl, by simp; exact ⟨hle, hge⟩⟩
      obtain ⟨x, hx⟩ := Option.isSome_iff_exists.1 hs
      rw [hx]
      have hm := List.mem_of_find?_eq_some hx
      have hp := List.find?_some hx
      simp only [decide_eq_true_eq] at hp
      obtain ⟨i, hi, rfl⟩ := List.getElem_of_mem hm
      congr 1
      rcases Nat.lt_trichotomy i (lowI n rs) with h1 | h1 | h1
      · exact absurd hp (before i hi h1)
      · subst h1; rfl
      · have := h.lt h1 hi; omega
    · rename_i hgt
      refine none_of fun i hi hh => ?_
      rcases Nat.lt_or_ge i (lowI n rs) with h1 | h1
      · exact before i hi h1 hh
      · have := (h.le2 h1 hi).2; omega
  · rename_i hl
    exact none_of fun i hi hh => before i hi (by omega) hh

/-- one cell of a row is written -/
theorem blk_cell {sz : Nat} {H : Heap} {b cap i o : Nat} {f : Nat → Array Value} {l : List Value} (hb : Blk sz H b cap f) (hi : i < cap) (ho : o + l.length ≤ sz) (hc : l.all isCell = true) :
    ∃ H', wrA H b (i * sz + o) l = some H' ∧ Ext [b] H H' ∧ H'.size = H.size ∧ Blk sz H' b cap (fun k => if k = i then splice (f i) o l else f k) := by
  obtain ⟨c, hc1, hr⟩ := hb
  have h1 := row_lt (sz := sz) hi
  have h2 := hr.size
  rw [wrA_b, hc1, Option.bind_some, if_pos ⟨by omega, hc⟩]
  exact ⟨_, rfl, (Ext.refl _ _).setB _ _ (Or.inl (by simp)), size_setB _ _ _, _, own_setB_same hc1, hr.setC hi ho⟩

theorem Cut_ev {H : Heap} {s : Nat} {room : Nat} {rs : List Rng} {T : List Nat} {b : Int} {R : Value → Heap → Prop} (h : SetH H s room rs T)
    (hR : ∀ H', Ext T H H' → SetH H' s room (cutS rs b) T → R (iv (cutE b)) H') : EvF P N.span_Set_Cut #[ptr s, iv b] H R := by
  refine z106_ev _ _ _ _ ?_
  obtain ⟨v, T', ho, hl, rfl, hn⟩ := h.rep
  have hrm := h.hroom
  have hfw := h.few
  simp only [z106_g24, z106_g25, z106_g26, z106_g27, z106_g28, z106_g29, z106_g31, z106_s30, z106_g33, z106_g34, span_Set_Cut]
  try simp only [bnd_some, brV_t, brV_f, brG_t, brG_f, newE_u, pickE_t, pickE_f, nilV_p, faV_p, ldE_f, ldE_t, rdA_u, stE_p, cells_int, cells_bool, cells_ptr, cells_slice, cells_func, cells_agg, bin_add, bin_sub, bin_mul, bin_eql, bin_neq, bin_lss, bin_leq, bin_gtr, bin_geq, bin_eqlb, bin_neqb, bin_eqlp, bin_eqlp0, bin_neqp, bin_neqp0, bin_eqls, bin_eqls0, un_not, un_neg, len_s, cap_s, ex_t, cv_i, callV_f, Option.bind_some, Option.map_some, Nat.zero_add, Nat.add_zero, Nat.reduceAdd, Nat.reduceMul, size_newB, size_setB, blk_newB_self, own_newB_self, wrA_b, own_setB_m, blk_setB_m, setB_setB, List.getElem?_toArray, List.getElem?_cons_zero, List.getElem?_cons_succ, List.length_cons, List.length_nil, List.all_cons, List.all_nil, isCell_int, isCell_bool, isCell_ptr, isCell_slice, isCell_func, Bool.and_true, Bool.and_self, and_self, if_true, List.size_toArray, and_true, true_and, Nat.reduceLeDiff, Nat.le_refl, Bool.not_true, Bool.not_false, Bool.true_and, Bool.false_and, Bool.and_false, Int.reduceBNe, Int.reduceBEq, Int.reduceLT, Int.reduceLE, decide_true, decide_false]
  refine setnone_ev ho h.hroom.1 ?_
  try simp only [bnd_some, brV_t, brV_f, brG_t, brG_f, newE_u, pickE_t, pickE_f, nilV_p, faV_p, ldE_f, ldE_t, rdA_u, stE_p, cells_int, cells_bool, cells_ptr, cells_slice, cells_func, cells_agg, bin_add, bin_sub, bin_mul, bin_eql, bin_neq, bin_lss, bin_leq, bin_gtr, bin_geq, bin_eqlb, bin_neqb, bin_eqlp, bin_eqlp0, bin_neqp, bin_neqp0, bin_eqls, bin_eqls0, un_not, un_neg, len_s, cap_s, ex_t, cv_i, callV_f, Option.bind_some, Option.map_some, Nat.zero_add, Nat.add_zero, Nat.reduceAdd, Nat.reduceMul, size_newB, size_setB, blk_newB_self, own_newB_self, wrA_b, own_setB_m, blk_setB_m, setB_setB, List.getElem?_toArray, List.getElem?_cons_zero, List.getElem?_cons_succ, List.length_cons, List.length_nil, List.all_cons, List.all_nil, isCell_int, isCell_bool, isCell_ptr, isCell_slice, isCell_func, Bool.and_true, Bool.and_self, and_self, if_true, List.size_toArray, and_true, true_and, Nat.reduceLeDiff, Nat.le_refl, Bool.not_true, Bool.not_false, Bool.true_and, Bool.false_and, Bool.and_false, Int.reduceBNe, Int.reduceBEq, Int.reduceLT, Int.reduceLE, decide_true, decide_false]
  refine spanis_ev ?_
  try simp only [bnd_some, brV_t, brV_f, brG_t, brG_f, newE_u, pickE_t, pickE_f, nilV_p, faV_p, ldE_f, ldE_t, rdA_u, stE_p, cells_int, cells_bool, cells_ptr, cells_slice, cells_func, cells_agg, bin_add, bin_sub, bin_mul, bin_eql, bin_neq, bin_lss, bin_leq, bin_gtr, bin_geq, bin_eqlb, bin_neqb, bin_eqlp, bin_eqlp0, bin_neqp, bin_neqp0, bin_eqls, bin_eqls0, un_not, un_neg, len_s, cap_s, ex_t, cv_i, callV_f, Option.bind_some, Option.map_some, Nat.zero_add, Nat.add_zero, Nat.reduceAdd, Nat.reduceMul, size_newB, size_setB, blk_newB_self, own_newB_self, wrA_b, own_setB_m, blk_setB_m, setB_setB, List.getElem?_toArray, List.getElem?_cons_zero, List.getElem?_cons_succ, List.length_cons, List.length_nil, List.all_cons, List.all_nil, isCell_int, isCell_bool, isCell_ptr, isCell_slice, isCell_func, Bool.and_true, Bool.and_self, and_self, if_true, List.size_toArray, and_true, true_and, Nat.reduceLeDiff, Nat.le_refl, Bool.not_true, Bool.not_false, Bool.true_and, Bool.false_and, Bool.and_false, Int.reduceBNe, Int.reduceBEq, Int.reduceLT, Int.reduceLE, decide_true, decide_false]
  refine brV_i (fun hb => ?_) (fun hb => ?_)
  · have hb' : ¬ okN b := by simp [okN] at hb ⊢; omega
    have := hR H (Ext.refl _ _) (by unfold cutS; rw [if_neg hb']; exact h)
    unfold cutE at this; rw [if_neg hb'] at this; exact this
  · have hb' : okN b := by simp [okN] at hb ⊢; omega
    have hcs : cutS rs b = cutL rs b := if_pos hb'
    have hce : cutE b = 0 := if_pos hb'
    rw [hcs, hce] at hR
    try simp only [bnd_some, brV_t, brV_f, brG_t, brG_f, newE_u, pickE_t, pickE_f, nilV_p, faV_p, ldE_f, ldE_t, rdA_u, stE_p, cells_int, cells_bool, cells_ptr, cells_slice, cells_func, cells_agg, bin_add, bin_sub, bin_mul, bin_eql, bin_neq, bin_lss, bin_leq, bin_gtr, bin_geq, bin_eqlb, bin_neqb, bin_eqlp, bin_eqlp0, bin_neqp, bin_neqp0, bin_eqls, bin_eqls0, un_not, un_neg, len_s, cap_s, ex_t, cv_i, callV_f, Option.bind_some, Option.map_some, Nat.zero_add, Nat.add_zero, Nat.reduceAdd, Nat.reduceMul, size_newB, size_setB, blk_newB_self, own_newB_self, wrA_b, own_setB_m, blk_setB_m, setB_setB, List.getElem?_toArray, List.getElem?_cons_zero, List.getElem?_cons_succ, List.length_cons, List.length_nil, List.all_cons, List.all_nil, isCell_int, isCell_bool, isCell_ptr, isCell_slice, isCell_func, Bool.and_true, Bool.and_self, and_self, if_true, List.size_toArray, and_true, true_and, Nat.reduceLeDiff, Nat.le_refl, Bool.not_true, Bool.not_false, Bool.true_and, Bool.false_and, Bool.and_false, Int.reduceBNe, Int.reduceBEq, Int.reduceLT, Int.reduceLE, decide_true, decide_false, own_blk ho, setC_1]
    refine first_ev h fun H1 e1 => ?_
    have ho1 := e1.own ho (by simp)
    have hl1 := hl.ext e1 (by simp)
    have hk : lowI b rs ≤ rs.length := fi_le _ _
    try simp only [bnd_some, brV_t, brV_f, brG_t, brG_f, newE_u, pickE_t, pickE_f, nilV_p, faV_p, ldE_f, ldE_t, rdA_u, stE_p, cells_int, cells_bool, cells_ptr, cells_slice, cells_func, cells_agg, bin_add, bin_sub, bin_mul, bin_eql, bin_neq, bin_lss, bin_leq, bin_gtr, bin_geq, bin_eqlb, bin_neqb, bin_eqlp, bin_eqlp0, bin_neqp, bin_neqp0, bin_eqls, bin_eqls0, un_not, un_neg, len_s, cap_s, ex_t, cv_i, callV_f, Option.bind_some, Option.map_some, Nat.zero_add, Nat.add_zero, Nat.reduceAdd, Nat.reduceMul, size_newB, size_setB, blk_newB_self, own_newB_self, wrA_b, own_setB_m, blk_setB_m, setB_setB, List.getElem?_toArray, List.getElem?_cons_zero, List.getElem?_cons_succ, List.length_cons, List.length_nil, List.all_cons, List.all_nil, isCell_int, isCell_bool, isCell_ptr, isCell_slice, isCell_func, Bool.and_true, Bool.and_self, and_self, if_true, List.size_toArray, and_true, true_and, Nat.reduceLeDiff, Nat.le_refl, Bool.not_true, Bool.not_false, Bool.true_and, Bool.false_and, Bool.and_false, Int.reduceBNe, Int.reduceBEq, Int.reduceLT, Int.reduceLE, decide_true, decide_false, own_blk ho1, setC_1]
    refine Delete_ev hl1 hk (by omega) fun v' H2 e2 hl2 => ?_
    have ho2 := e2.own ho1 hn
    obtain ⟨c1, c2⟩ := hl2.cell
    try simp only [bnd_some, brV_t, brV_f, brG_t, brG_f, newE_u, pickE_t, pickE_f, nilV_p, faV_p, ldE_f, ldE_t, rdA_u, stE_p, cells_int, cells_bool, cells_ptr, cells_slice, cells_func, cells_agg, bin_add, bin_sub, bin_mul, bin_eql, bin_neq, bin_lss, bin_leq, bin_gtr, bin_geq, bin_eqlb, bin_neqb, bin_eqlp, bin_eqlp0, bin_neqp, bin_neqp0, bin_eqls, bin_eqls0, un_not, un_neg, len_s, cap_s, ex_t, cv_i, callV_f, Option.bind_some, Option.map_some, Nat.zero_add, Nat.add_zero, Nat.reduceAdd, Nat.reduceMul, size_newB, size_setB, blk_newB_self, own_newB_self, wrA_b, own_setB_m, blk_setB_m, setB_setB, List.getElem?_toArray, List.getElem?_cons_zero, List.getElem?_cons_succ, List.length_cons, List.length_nil, List.all_cons, List.all_nil, isCell_int, isCell_bool, isCell_ptr, isCell_slice, isCell_func, Bool.and_true, Bool.and_self, and_self, if_true, List.size_toArray, and_true, true_and, Nat.reduceLeDiff, Nat.le_refl, Bool.not_true, Bool.not_false, Bool.true_and, Bool.false_and, Bool.and_false, Int.reduceBNe, Int.reduceBEq, Int.reduceLT, Int.reduceLE, decide_true, decide_false, c1, ho2, setC_s, setC_w, c2, List.length_singleton, own_blk ho2, setC_1, hl2.len]
    generalize hK : setB H2 s (setC room v') = K
    have e3 : Ext [s] H2 K := by rw [← hK]; exact (Ext.refl _ _).setB _ _ (Or.inl (by simp))
    have ho3 : own K s = some (setC room v') := by rw [← hK]; exact own_setB_same ho2
    have hl3 := hl2.ext e3 (fun x hx => by simp; exact fun e => hn (e ▸ hx))
    have e13 : Ext (s :: T') H K := ((e1.mono (by simp)).thru e2 (fun b hb => Or.inl (by simp [hb]))).thru e3 (by simp)
    have hok := cutL_ok h.ok hb'.1 (b := b)
    have hlen : (cutL rs b).length = (rs.drop (lowI b rs)).length := by unfold cutL; cases rs.drop (lowI b rs) <;> simp [cutH]
    refine brV_d (fun hpos => ?_) (fun hpos => ?_)
    · have hpos' : 0 < (rs.drop (lowI b rs)).length := by omega
      obtain ⟨r, l, hrl⟩ : ∃ r l, rs.drop (lowI b rs) = r :: l := by
        cases hd : rs.drop (lowI b rs) with
        | nil => rw [hd] at hpos'; simp at hpos'
        | cons r l => exact ⟨r, l, rfl⟩
      obtain ⟨bb, cap, rfl, rfl⟩ : ∃ b' cap, v' = .slice (some ⟨b', 0, none⟩) (rs.drop (lowI b rs)).length cap ∧ T' = [b'] := by
        rcases hl3.whole with ⟨_, h0, _⟩ | h
        · rw [h0] at hpos'; simp at hpos'
        · exact h
      obtain ⟨_, _, hcap, hmm, f, hB, hf⟩ := hl3.blk
      have hf0 : f 0 = rngC r := by rw [hf 0 hpos']; simp [hrl]; rfl
      have i1 : ixSV 2 (.slice (some ⟨bb, 0, none⟩) (rs.drop (lowI b rs)).length cap) (.int .i64 0) = some (.pointer (some ⟨bb, 0, none⟩)) := by
        rw [ixS_u (by omega)]; rfl
      obtain ⟨c, hc1, hr1⟩ := hB
      have i2 : c[0]? = some (iv r.1) := by have := hr1.row 0 (by omega) 0 (by decide); rw [hf0] at this; exact this
      obtain ⟨H4, w1, w2, w3, w4⟩ := blk_cell (l := [iv (max r.1 b)]) (i := 0) (o := 0) ⟨c, hc1, hr1⟩ (by omega) (by show 0 + 1 ≤ 2; omega) (by simp [isCell])
      have w1' : wrA K bb 0 [iv (max r.1 b)] = some H4 := by simpa using w1
      try simp only [ew, Nat.reduceAdd, Nat.reduceMul, Nat.reduceLeDiff, Int.reduceBNe, Int.reduceBEq, Int.reduceLT, Int.reduceLE, ldE_f, stE_p, own_blk ho3, setC_1, i1, own_blk hc1, i2, max_iv, w1']
      have hne : bb ≠ s := by simpa [eq_comm] using hn
      refine hR H4 (e13.thru w2 (by simp)) ⟨⟨_, [bb], w2.own ho3 (by simp; exact fun e => hne e.symm), OwnL.of_blk w4 hlen.symm (by omega) (by omega) (fun k hk => ?_), rfl, hn⟩, h.hroom, hok, by rw [hlen]; simp; omega⟩
      have hcl : cutL rs b = (max r.1 b, r.2) :: l := by unfold cutL; rw [hrl]; rfl
      simp only [hcl]
      cases k with
      | zero => simp only [if_true, hf0, List.getElem_cons_zero]; rfl
      | succ k =>
        have hk' : k + 1 < (rs.drop (lowI b rs)).length := by rw [← hlen]; exact hk
        simp only [Nat.succ_ne_zero, if_false, List.getElem_cons_succ, hf _ hk', hrl]
    · have h0 : rs.drop (lowI b rs) = [] := by cases hd : rs.drop (lowI b rs) with
        | nil => rfl
        | cons r l => rw [hd] at hpos; simp at hpos
      have hcl : cutL rs b = [] := by unfold cutL; rw [h0]; rfl
      refine hR K e13 ⟨⟨v', T', ho3, by rw [hcl, ← h0]; exact hl3, rfl, hn⟩, h.hroom, hok, by rw [hcl]; simp⟩

def optR (o : Option Rng) : Value := .tuple #[.agg (rngC (o.getD (0, 0))), .bool o.isSome]
end Go.Hc
set_option linter.unusedSimpArgs false
set_option linter.unusedVariables false
namespace Go.Hc
open Go

section
variable {H : Heap} {s room : Nat} {rs : List Rng} {T : List Nat} {n : Int} {R : Value → Heap → Prop}
theorem SCopy_ev (h : SetH H s room rs T) (hR : ∀ s' T' H', Ext [] H H' → (∀ b ∈ T', H.size ≤ b) → SetH H' s' room rs T' → R (ptr s') H') : EvF P N.span_Set_Copy #[ptr s] H R := by
  refine z85_ev _ _ _ ?_
  obtain ⟨v, T', ho, hl, rfl, hn⟩ := h.rep
  have hrm := h.hroom
  have hfw := h.few
  simp only [z85_g11, z85_g12, z85_g13, z85_g14, span_Set_Copy]
  try simp only [bnd_some, brV_t, brV_f, brG_t, brG_f, newE_u, pickE_t, pickE_f, nilV_p, faV_p, ldE_f, ldE_t, rdA_u, stE_p, cells_int, cells_bool, cells_ptr, cells_slice, cells_func, cells_agg, bin_add, bin_sub, bin_mul, bin_eql, bin_neq, bin_lss, bin_leq, bin_gtr, bin_geq, bin_eqlb, bin_neqb, bin_eqlp, bin_eqlp0, bin_neqp, bin_neqp0, bin_eqls, bin_eqls0, un_not, un_neg, len_s, cap_s, ex_t, cv_i, callV_f, Option.bind_some, Option.map_some, Nat.zero_add, Nat.add_zero, Nat.reduceAdd, Nat.reduceMul, size_newB, size_setB, blk_newB_self, own_newB_self, wrA_b, own_setB_m, blk_setB_m, setB_setB, List.getElem?_toArray, List.getElem?_cons_zero, List.getElem?_cons_succ, List.length_cons, List.length_nil, List.all_cons, List.all_nil, isCell_int, isCell_bool, isCell_ptr, isCell_slice, isCell_func, Bool.and_true, Bool.and_self, and_self, if_true, List.size_toArray, and_true, true_and, Nat.reduceLeDiff, Nat.le_refl, Bool.not_true, Bool.not_false, Bool.true_and, Bool.false_and, Bool.and_false, Int.reduceBNe, Int.reduceBEq, Int.reduceLT, Int.reduceLE, decide_true, decide_false]
  refine setnone_ev ho h.hroom.1 ?_
  try simp only [bnd_some, brV_t, brV_f, brG_t, brG_f, newE_u, pickE_t, pickE_f, nilV_p, faV_p, ldE_f, ldE_t, rdA_u, stE_p, cells_int, cells_bool, cells_ptr, cells_slice, cells_func, cells_agg, bin_add, bin_sub, bin_mul, bin_eql, bin_neq, bin_lss, bin_leq, bin_gtr, bin_geq, bin_eqlb, bin_neqb, bin_eqlp, bin_eqlp0, bin_neqp, bin_neqp0, bin_eqls, bin_eqls0, un_not, un_neg, len_s, cap_s, ex_t, cv_i, callV_f, Option.bind_some, Option.map_some, Nat.zero_add, Nat.add_zero, Nat.reduceAdd, Nat.reduceMul, size_newB, size_setB, blk_newB_self, own_newB_self, wrA_b, own_setB_m, blk_setB_m, setB_setB, List.getElem?_toArray, List.getElem?_cons_zero, List.getElem?_cons_succ, List.length_cons, List.length_nil, List.all_cons, List.all_nil, isCell_int, isCell_bool, isCell_ptr, isCell_slice, isCell_func, Bool.and_true, Bool.and_self, and_self, if_true, List.size_toArray, and_true, true_and, Nat.reduceLeDiff, Nat.le_refl, Bool.not_true, Bool.not_false, Bool.true_and, Bool.false_and, Bool.and_false, Int.reduceBNe, Int.reduceBEq, Int.reduceLT, Int.reduceLE, decide_true, decide_false, own_blk ho, setC_0, setC_1]
  refine Clone_ev hl (by omega) fun v' S' H1 e1 hS' hl' => ?_
  have ho1 := e1.own ho (by simp)
  have hlt := own_lt ho1
  have hb : buildV #[.int .i64 0, .slice none 0 0] (places [(0, 1), (1, 1)]) [(0, iv room), (1, v')] = some (.agg (setC room v')) := by
    rcases hl'.whole with ⟨rfl, _⟩ | ⟨b, cap, rfl, _⟩ <;> rfl
  have hne : s ≠ H1.size := by omega
  have en : ∀ t c, Ext [] H1 (newB H1 t c) := fun t c => (Ext.refl _ _).newB _ _
  try simp only [bnd_some, brV_t, brV_f, brG_t, brG_f, newE_u, pickE_t, pickE_f, nilV_p, faV_p, ldE_f, ldE_t, rdA_u, stE_p, cells_int, cells_bool, cells_ptr, cells_slice, cells_func, cells_agg, bin_add, bin_sub, bin_mul, bin_eql, bin_neq, bin_lss, bin_leq, bin_gtr, bin_geq, bin_eqlb, bin_neqb, bin_eqlp, bin_eqlp0, bin_neqp, bin_neqp0, bin_eqls, bin_eqls0, un_not, un_neg, len_s, cap_s, ex_t, cv_i, callV_f, Option.bind_some, Option.map_some, Nat.zero_add, Nat.add_zero, Nat.reduceAdd, Nat.reduceMul, size_newB, size_setB, blk_newB_self, own_newB_self, wrA_b, own_setB_m, blk_setB_m, setB_setB, List.getElem?_toArray, List.getElem?_cons_zero, List.getElem?_cons_succ, List.length_cons, List.length_nil, List.all_cons, List.all_nil, isCell_int, isCell_bool, isCell_ptr, isCell_slice, isCell_func, Bool.and_true, Bool.and_self, and_self, if_true, List.size_toArray, and_true, true_and, Nat.reduceLeDiff, Nat.le_refl, Bool.not_true, Bool.not_false, Bool.true_and, Bool.false_and, Bool.and_false, Int.reduceBNe, Int.reduceBEq, Int.reduceLT, Int.reduceLE, decide_true, decide_false, own_blk ho1, setC_0, hb, blk_newB_ne hne]
  have hl1 := hl'.lt
  have hs := e1.size
  refine hR _ (H1.size :: S') _ (e1.trans (en _ _)) (fun b hb => ?_) ⟨⟨v', S', own_newB_self, hl'.ext (en _ _) (by simp), rfl, fun hm => by have := hl1 _ hm; omega⟩, h.hroom, h.ok, h.few⟩
  rcases List.mem_cons.1 hb with rfl | hb
  · exact hs
  · exact hS' b hb

/-- the ranges, the greatest one first, handed on -/
theorem falling_y {H0 : Heap} {a : Nat} (h : SetH H0 s room rs T) (ha : blk H0 a = some #[ptr s]) : Yields P (.func (.func N.span_Set_falling_1) #[] #[ptr a]) H0 (a :: T) rs.reverse (fun x => [.agg (rngC x)]) := by
  intro y H1 I h0 hext step
  have hrm := h.hroom
  have hfw := h.few
  obtain ⟨v, T', ho, hl, rfl, hn⟩ := h.rep
  refine z173_ev0 _ _ _ _ ?_
  have e1 := hext 0 H1 h0
  have ho1 := own_same ho (e1 s (by simp))
  have ha1 := blk_same ha (e1 a (by simp))
  have w1 : IntKind.i64.wrap ((rs.length : Int) - 1) = (rs.length : Int) - 1 := wrap_in (by omega)
  simp only [z173_g13, z173_g15, z173_g16, z173_s14, z173_l20, span_Set_falling_1]
  try simp only [bnd_some, brV_t, brV_f, brG_t, brG_f, newE_u, pickE_t, pickE_f, nilV_p, faV_p, ldE_f, ldE_t, rdA_u, stE_p, cells_int, cells_bool, cells_ptr, cells_slice, cells_func, cells_agg, bin_add, bin_sub, bin_mul, bin_eql, bin_neq, bin_lss, bin_leq, bin_gtr, bin_geq, bin_eqlb, bin_neqb, bin_eqlp, bin_eqlp0, bin_neqp, bin_neqp0, bin_eqls, bin_eqls0, un_not, un_neg, len_s, cap_s, ex_t, cv_i, callV_f, Option.bind_some, Option.map_some, Nat.zero_add, Nat.add_zero, Nat.reduceAdd, Nat.reduceMul, size_newB, size_setB, blk_newB_self, own_newB_self, wrA_b, own_setB_m, blk_setB_m, setB_setB, List.getElem?_toArray, List.getElem?_cons_zero, List.getElem?_cons_succ, List.length_cons, List.length_nil, List.all_cons, List.all_nil, isCell_int, isCell_bool, isCell_ptr, isCell_slice, isCell_func, Bool.and_true, Bool.and_self, and_self, if_true, List.size_toArray, and_true, true_and, Nat.reduceLeDiff, Nat.le_refl, Bool.not_true, Bool.not_false, Bool.true_and, Bool.false_and, Bool.and_false, Int.reduceBNe, Int.reduceBEq, Int.reduceLT, Int.reduceLE, decide_true, decide_false, ha1, own_blk ho1, setC_1, hl.len, w1]
  refine ⟨fun x K => ∃ k : Nat, k ≤ rs.length ∧ x = iv ((rs.length : Int) - 1 - k) ∧ I k K, fun x _ => (match x with | .int _ k => (k + 1).toNat | _ => 0), ⟨0, by omega, by simp, h0⟩, ?_⟩
  rintro x K ⟨k, hk, rfl, hI⟩
  have eK := hext k K hI
  have hoK := own_same ho (eK s (by simp))
  have haK := blk_same ha (eK a (by simp))
  have hlK := hl.same (fun b hb => eK b (by simp [hb]))
  try simp only [bnd_some, brV_t, brV_f, brG_t, brG_f, newE_u, pickE_t, pickE_f, nilV_p, faV_p, ldE_f, ldE_t, rdA_u, stE_p, cells_int, cells_bool, cells_ptr, cells_slice, cells_func, cells_agg, bin_add, bin_sub, bin_mul, bin_eql, bin_neq, bin_lss, bin_leq, bin_gtr, bin_geq, bin_eqlb, bin_neqb, bin_eqlp, bin_eqlp0, bin_neqp, bin_neqp0, bin_eqls, bin_eqls0, un_not, un_neg, len_s, cap_s, ex_t, cv_i, callV_f, Option.bind_some, Option.map_some, Nat.zero_add, Nat.add_zero, Nat.reduceAdd, Nat.reduceMul, size_newB, size_setB, blk_newB_self, own_newB_self, wrA_b, own_setB_m, blk_setB_m, setB_setB, List.getElem?_toArray, List.getElem?_cons_zero, List.getElem?_cons_succ, List.length_cons, List.length_nil, List.all_cons, List.all_nil, isCell_int, isCell_bool, isCell_ptr, isCell_slice, isCell_func, Bool.and_true, Bool.and_self, and_self, if_true, List.size_toArray, and_true, true_and, Nat.reduceLeDiff, Nat.le_refl, Bool.not_true, Bool.not_false, Bool.true_and, Bool.false_and, Bool.and_false, Int.reduceBNe, Int.reduceBEq, Int.reduceLT, Int.reduceLE, decide_true, decide_false]
  refine brV_d (fun hge => ?_) (fun hlt => ?_)
  · have hk' : k < rs.length := by omega
    obtain ⟨b, o, c, i1, i2, i3, i4⟩ := hlK.show.ix (by decide) (show rs.length - 1 - k < rs.length by omega) (show ((rs.length : Int) - 1 - k) = (rs.length - 1 - k : Nat) by omega)
    have i1' : ixSV 2 v (iv ((rs.length : Int) - 1 - k)) = _ := i1
    have i4' : ldE true 2 (.pointer (some ⟨b, o, none⟩)) K = some (.agg (rngC rs[rs.length - 1 - k])) := i4
    try simp only [ew, Nat.reduceAdd, Nat.reduceMul, Nat.reduceLeDiff, Int.reduceBNe, Int.reduceBEq, Int.reduceLT, Int.reduceLE, ldE_f, haK, own_blk hoK, setC_1, i1', i4']
    have hst := step k (by simpa using hk') K hI
    have : rs.reverse[k]'(by simpa using hk') = rs[rs.length - 1 - k] := by rw [List.getElem_reverse]
    rw [this] at hst
    refine callV_mono (fun v' K' hv => ?_) hst
    obtain ⟨rfl, hI'⟩ := hv
    have w2 : IntKind.i64.wrap ((rs.length : Int) - 1 - k - 1) = (rs.length : Int) - 1 - (k + 1 : Nat) := by rw [wrap_in (by omega)]; omega
    try simp only [bnd_some, brV_t, brV_f, brG_t, brG_f, newE_u, pickE_t, pickE_f, nilV_p, faV_p, ldE_f, ldE_t, rdA_u, stE_p, cells_int, cells_bool, cells_ptr, cells_slice, cells_func, cells_agg, bin_add, bin_sub, bin_mul, bin_eql, bin_neq, bin_lss, bin_leq, bin_gtr, bin_geq, bin_eqlb, bin_neqb, bin_eqlp, bin_eqlp0, bin_neqp, bin_neqp0, bin_eqls, bin_eqls0, un_not, un_neg, len_s, cap_s, ex_t, cv_i, callV_f, Option.bind_some, Option.map_some, Nat.zero_add, Nat.add_zero, Nat.reduceAdd, Nat.reduceMul, size_newB, size_setB, blk_newB_self, own_newB_self, wrA_b, own_setB_m, blk_setB_m, setB_setB, List.getElem?_toArray, List.getElem?_cons_zero, List.getElem?_cons_succ, List.length_cons, List.length_nil, List.all_cons, List.all_nil, isCell_int, isCell_bool, isCell_ptr, isCell_slice, isCell_func, Bool.and_true, Bool.and_self, and_self, if_true, List.size_toArray, and_true, true_and, Nat.reduceLeDiff, Nat.le_refl, Bool.not_true, Bool.not_false, Bool.true_and, Bool.false_and, Bool.and_false, Int.reduceBNe, Int.reduceBEq, Int.reduceLT, Int.reduceLE, decide_true, decide_false, w2]
    exact ⟨⟨k + 1, by omega, rfl, hI'⟩, by show _ < _; omega⟩
  · have : k = rs.length := by omega
    subst this
    try simp only [bnd_some, brV_t, brV_f, brG_t, brG_f, newE_u, pickE_t, pickE_f, nilV_p, faV_p, ldE_f, ldE_t, rdA_u, stE_p, cells_int, cells_bool, cells_ptr, cells_slice, cells_func, cells_agg, bin_add, bin_sub, bin_mul, bin_eql, bin_neq, bin_lss, bin_leq, bin_gtr, bin_geq, bin_eqlb, bin_neqb, bin_eqlp, bin_eqlp0, bin_neqp, bin_neqp0, bin_eqls, bin_eqls0, un_not, un_neg, len_s, cap_s, ex_t, cv_i, callV_f, Option.bind_some, Option.map_some, Nat.zero_add, Nat.add_zero, Nat.reduceAdd, Nat.reduceMul, size_newB, size_setB, blk_newB_self, own_newB_self, wrA_b, own_setB_m, blk_setB_m, setB_setB, List.getElem?_toArray, List.getElem?_cons_zero, List.getElem?_cons_succ, List.length_cons, List.length_nil, List.all_cons, List.all_nil, isCell_int, isCell_bool, isCell_ptr, isCell_slice, isCell_func, Bool.and_true, Bool.and_self, and_self, if_true, List.size_toArray, and_true, true_and, Nat.reduceLeDiff, Nat.le_refl, Bool.not_true, Bool.not_false, Bool.true_and, Bool.false_and, Bool.and_false, Int.reduceBNe, Int.reduceBEq, Int.reduceLT, Int.reduceLE, decide_true, decide_false]
    simpa using hI
theorem Ranges_ev (h : SetH H s room rs T) (hR : ∀ v' S' H', Ext [] H H' → (∀ b ∈ S', H.size ≤ b) → OwnL rngE H' v' S' rs.reverse → R v' H') : EvF P N.span_Set_Ranges #[ptr s] H R := by
  refine z103_ev _ _ _ ?_
  have hrm := h.hroom
  have hfw := h.few
  obtain ⟨v, T', ho, hl, rfl, hn⟩ := h.rep
  simp only [z103_g11, z103_g12, z103_g13, z103_g14, span_Set_Ranges]
  try simp only [bnd_some, brV_t, brV_f, brG_t, brG_f, newE_u, pickE_t, pickE_f, nilV_p, faV_p, ldE_f, ldE_t, rdA_u, stE_p, cells_int, cells_bool, cells_ptr, cells_slice, cells_func, cells_agg, bin_add, bin_sub, bin_mul, bin_eql, bin_neq, bin_lss, bin_leq, bin_gtr, bin_geq, bin_eqlb, bin_neqb, bin_eqlp, bin_eqlp0, bin_neqp, bin_neqp0, bin_eqls, bin_eqls0, un_not, un_neg, len_s, cap_s, ex_t, cv_i, callV_f, Option.bind_some, Option.map_some, Nat.zero_add, Nat.add_zero, Nat.reduceAdd, Nat.reduceMul, size_newB, size_setB, blk_newB_self, own_newB_self, wrA_b, own_setB_m, blk_setB_m, setB_setB, List.getElem?_toArray, List.getElem?_cons_zero, List.getElem?_cons_succ, List.length_cons, List.length_nil, List.all_cons, List.all_nil, isCell_int, isCell_bool, isCell_ptr, isCell_slice, isCell_func, Bool.and_true, Bool.and_self, and_self, if_true, List.size_toArray, and_true, true_and, Nat.reduceLeDiff, Nat.le_refl, Bool.not_true, Bool.not_false, Bool.true_and, Bool.false_and, Bool.and_false, Int.reduceBNe, Int.reduceBEq, Int.reduceLT, Int.reduceLE, decide_true, decide_false]
  refine setnone_ev ho h.hroom.1 ?_
  try simp only [bnd_some, brV_t, brV_f, brG_t, brG_f, newE_u, pickE_t, pickE_f, nilV_p, faV_p, ldE_f, ldE_t, rdA_u, stE_p, cells_int, cells_bool, cells_ptr, cells_slice, cells_func, cells_agg, bin_add, bin_sub, bin_mul, bin_eql, bin_neq, bin_lss, bin_leq, bin_gtr, bin_geq, bin_eqlb, bin_neqb, bin_eqlp, bin_eqlp0, bin_neqp, bin_neqp0, bin_eqls, bin_eqls0, un_not, un_neg, len_s, cap_s, ex_t, cv_i, callV_f, Option.bind_some, Option.map_some, Nat.zero_add, Nat.add_zero, Nat.reduceAdd, Nat.reduceMul, size_newB, size_setB, blk_newB_self, own_newB_self, wrA_b, own_setB_m, blk_setB_m, setB_setB, List.getElem?_toArray, List.getElem?_cons_zero, List.getElem?_cons_succ, List.length_cons, List.length_nil, List.all_cons, List.all_nil, isCell_int, isCell_bool, isCell_ptr, isCell_slice, isCell_func, Bool.and_true, Bool.and_self, and_self, if_true, List.size_toArray, and_true, true_and, Nat.reduceLeDiff, Nat.le_refl, Bool.not_true, Bool.not_false, Bool.true_and, Bool.false_and, Bool.and_false, Int.reduceBNe, Int.reduceBEq, Int.reduceLT, Int.reduceLE, decide_true, decide_false]
  refine z152_ev _ _ _ ?_
  simp only [z152_g5, z152_g6, span_Set_falling]
  try simp only [bnd_some, brV_t, brV_f, brG_t, brG_f, newE_u, pickE_t, pickE_f, nilV_p, faV_p, ldE_f, ldE_t, rdA_u, stE_p, cells_int, cells_bool, cells_ptr, cells_slice, cells_func, cells_agg, bin_add, bin_sub, bin_mul, bin_eql, bin_neq, bin_lss, bin_leq, bin_gtr, bin_geq, bin_eqlb, bin_neqb, bin_eqlp, bin_eqlp0, bin_neqp, bin_neqp0, bin_eqls, bin_eqls0, un_not, un_neg, len_s, cap_s, ex_t, cv_i, callV_f, Option.bind_some, Option.map_some, Nat.zero_add, Nat.add_zero, Nat.reduceAdd, Nat.reduceMul, size_newB, size_setB, blk_newB_self, own_newB_self, wrA_b, own_setB_m, blk_setB_m, setB_setB, List.getElem?_toArray, List.getElem?_cons_zero, List.getElem?_cons_succ, List.length_cons, List.length_nil, List.all_cons, List.all_nil, isCell_int, isCell_bool, isCell_ptr, isCell_slice, isCell_func, Bool.and_true, Bool.and_self, and_self, if_true, List.size_toArray, and_true, true_and, Nat.reduceLeDiff, Nat.le_refl, Bool.not_true, Bool.not_false, Bool.true_and, Bool.false_and, Bool.and_false, Int.reduceBNe, Int.reduceBEq, Int.reduceLT, Int.reduceLE, decide_true, decide_false]
  have en : ∀ t, Ext [] H (newB H t #[ptr s]) := fun t => (Ext.refl _ _).newB t _
  refine Collect_ev (falling_y (h.ext (en _) (by simp)) blk_newB_self) (fun b hb => ?_) (by simp; omega) fun v' S' H' e' hS' hl' => ?_
  · rw [size_newB]
    rcases List.mem_cons.1 hb with rfl | hb
    · omega
    · have := h.rep.lt b hb; omega
  · exact hR v' S' H' ((en _).trans e') (fun b hb => by have := hS' b hb; rw [size_newB] at this; omega) hl'
theorem Ranges_nil (hR : R (.slice none 0 0) H) : EvF P N.span_Set_Ranges #[.pointer none] H R := by
  refine z103_ev _ _ _ ?_
  simp only [z103_g11, z103_g12, z103_g13, z103_g14, span_Set_Ranges]
  try simp only [bnd_some, brV_t, brV_f, brG_t, brG_f, newE_u, pickE_t, pickE_f, nilV_p, faV_p, ldE_f, ldE_t, rdA_u, stE_p, cells_int, cells_bool, cells_ptr, cells_slice, cells_func, cells_agg, bin_add, bin_sub, bin_mul, bin_eql, bin_neq, bin_lss, bin_leq, bin_gtr, bin_geq, bin_eqlb, bin_neqb, bin_eqlp, bin_eqlp0, bin_neqp, bin_neqp0, bin_eqls, bin_eqls0, un_not, un_neg, len_s, cap_s, ex_t, cv_i, callV_f, Option.bind_some, Option.map_some, Nat.zero_add, Nat.add_zero, Nat.reduceAdd, Nat.reduceMul, size_newB, size_setB, blk_newB_self, own_newB_self, wrA_b, own_setB_m, blk_setB_m, setB_setB, List.getElem?_toArray, List.getElem?_cons_zero, List.getElem?_cons_succ, List.length_cons, List.length_nil, List.all_cons, List.all_nil, isCell_int, isCell_bool, isCell_ptr, isCell_slice, isCell_func, Bool.and_true, Bool.and_self, and_self, if_true, List.size_toArray, and_true, true_and, Nat.reduceLeDiff, Nat.le_refl, Bool.not_true, Bool.not_false, Bool.true_and, Bool.false_and, Bool.and_false, Int.reduceBNe, Int.reduceBEq, Int.reduceLT, Int.reduceLE, decide_true, decide_false]
  refine setnone_nil ?_
  try simp only [bnd_some, brV_t, brV_f, brG_t, brG_f, newE_u, pickE_t, pickE_f, nilV_p, faV_p, ldE_f, ldE_t, rdA_u, stE_p, cells_int, cells_bool, cells_ptr, cells_slice, cells_func, cells_agg, bin_add, bin_sub, bin_mul, bin_eql, bin_neq, bin_lss, bin_leq, bin_gtr, bin_geq, bin_eqlb, bin_neqb, bin_eqlp, bin_eqlp0, bin_neqp, bin_neqp0, bin_eqls, bin_eqls0, un_not, un_neg, len_s, cap_s, ex_t, cv_i, callV_f, Option.bind_some, Option.map_some, Nat.zero_add, Nat.add_zero, Nat.reduceAdd, Nat.reduceMul, size_newB, size_setB, blk_newB_self, own_newB_self, wrA_b, own_setB_m, blk_setB_m, setB_setB, List.getElem?_toArray, List.getElem?_cons_zero, List.getElem?_cons_succ, List.length_cons, List.length_nil, List.all_cons, List.all_nil, isCell_int, isCell_bool, isCell_ptr, isCell_slice, isCell_func, Bool.and_true, Bool.and_self, and_self, if_true, List.size_toArray, and_true, true_and, Nat.reduceLeDiff, Nat.le_refl, Bool.not_true, Bool.not_false, Bool.true_and, Bool.false_and, Bool.and_false, Int.reduceBNe, Int.reduceBEq, Int.reduceLT, Int.reduceLE, decide_true, decide_false]
  exact hR
end

/-- a set of ours -/
def setA (s room : Nat) (rs : List Rng) : Asr where
  holds H T := SetH H s room rs T
  stable := fun {H H' T} a h => by
    obtain ⟨⟨v, T', h1, h2, rfl, h3⟩, b, c, d⟩ := a
    refine ⟨⟨v, T', own_same h1 (h _ (by simp)), ?_, rfl, h3⟩, b, c, d⟩
    cases h2 with
    | nil => exact .nil
    | mk ho hr hc hl hm => exact .mk (own_same ho (h _ (by simp))) hr hc hl hm
  lt := fun a => a.rep.lt
end Go.Hc
set_option linter.unusedSimpArgs false
set_option linter.unusedVariables false
namespace Go.Hc
open Go

section
variable {H0 H : Heap} {s room : Nat} {rs : List Rng} {Qs : List Asr} {n lo hi : Int} {R : Value → Heap → Prop}
theorem Sep.set_h (h : Sep H0 H (setA s room rs :: Qs)) : ∃ T, SetH H s room rs T := by
  obtain ⟨T, a, _⟩ := h.get; exact ⟨T, a⟩
theorem new_s {room : Int} (h : Sep H0 H Qs) (hr : 1 ≤ room ∧ room ≤ 256) (hR : ∀ s H', Sep H0 H' (setA s room.toNat [] :: Qs) → R (.tuple #[ptr s, iv 0]) H') : EvF P N.span_New #[iv room] H R :=
  spanNew_ev (fun hb => absurd hb (by omega)) fun H' m hm e hs => by
    subst hm
    exact hR _ H' (h.new e (Q := setA H.size _ []) (T := [H.size]) (by rw [Int.toNat_natCast]; exact hs) (by simp))
theorem add_s (h : Sep H0 H (setA s room rs :: Qs)) (hR : ∀ H', Sep H0 H' (setA s room (addS room rs lo hi) :: Qs) → R (iv (addE room rs lo hi)) H') : EvF P N.span_Set_Add #[ptr s, iv lo, iv hi] H R := by
  obtain ⟨T, a, k⟩ := h.get
  exact Add_ev a fun H' T' e ht hs => hR H' (k (setA s room _) H' T' e hs ht)
theorem add_c {e : Int} {rs' : List Rng} (h : Sep H0 H (setA s room rs :: Qs)) (he : addE room rs lo hi = e) (hs : addS room rs lo hi = rs') (hR : ∀ H', Sep H0 H' (setA s room rs' :: Qs) → R (iv e) H') : EvF P N.span_Set_Add #[ptr s, iv lo, iv hi] H R := by
  subst he; subst hs; exact add_s h hR
theorem cut_s (h : Sep H0 H (setA s room rs :: Qs)) (hR : ∀ H', Sep H0 H' (setA s room (cutS rs n) :: Qs) → R (iv (cutE n)) H') : EvF P N.span_Set_Cut #[ptr s, iv n] H R := by
  obtain ⟨T, a, k⟩ := h.get
  exact Cut_ev a fun H' e hs => hR H' (k (setA s room _) H' T e hs fun x hx => .inl hx)
theorem cut_c {e : Int} {rs' : List Rng} (h : Sep H0 H (setA s room rs :: Qs)) (he : cutE n = e) (hs : cutS rs n = rs') (hR : ∀ H', Sep H0 H' (setA s room rs' :: Qs) → R (iv e) H') : EvF P N.span_Set_Cut #[ptr s, iv n] H R := by
  subst he; subst hs; exact cut_s h hR
theorem copy_s (h : Sep H0 H (setA s room rs :: Qs)) (hR : ∀ s' H', Sep H0 H' (setA s' room rs :: setA s room rs :: Qs) → R (ptr s') H') : EvF P N.span_Set_Copy #[ptr s] H R := by
  obtain ⟨T, a⟩ := h.set_h
  exact SCopy_ev a fun s' T' H' e ht hs => hR s' H' (h.new e (Q := setA s' room rs) (T := T') hs ht)
theorem ranges_s (h : Sep H0 H (setA s room rs :: Qs)) (hR : ∀ v H', Sep H0 H' (lstA rngE v rs.reverse :: setA s room rs :: Qs) → R v H') : EvF P N.span_Set_Ranges #[ptr s] H R := by
  obtain ⟨T, a⟩ := h.set_h
  exact Ranges_ev a fun v S H' e hs hl => hR v H' (h.new e (Q := lstA rngE v rs.reverse) (T := S) hl hs)
theorem Sep.set_ok (h : Sep H0 H (setA s room rs :: Qs)) : (1 ≤ room ∧ room ≤ 256) ∧ Okr rs ∧ rs.length ≤ room := by
  obtain ⟨T, a⟩ := h.set_h
  exact ⟨a.hroom, a.ok, a.few⟩
end
end Go.Hc
set_option linter.unusedSimpArgs false
set_option linter.unusedVariables false
namespace Go.Hc
open Go

structure Pkt where
  num : Int
  time : Int
  size : Int
  el : Bool
  fl : Bool
  ec : Bool
deriving DecidableEq
def pktC (p : Pkt) : Array Value := #[iv p.num, iv p.time, iv p.size, .bool p.el, .bool p.fl, .bool p.ec]
def pkt0 : Pkt := ⟨0, 0, 0, false, false, false⟩
def pktE : Enc Pkt := ⟨6, pktC pkt0, pktC, fun _ => rfl, rfl, fun _ => by simp [pktC, isCell], by simp [pktC, isCell]⟩
section
variable {p : Pkt}
theorem pktC_0 : (pktC p)[0]? = some (iv p.num) := rfl
theorem pktC_1 : (pktC p)[1]? = some (iv p.time) := rfl
theorem pktC_2 : (pktC p)[2]? = some (iv p.size) := rfl
theorem pktC_3 : (pktC p)[3]? = some (.bool p.el) := rfl
theorem pktC_4 : (pktC p)[4]? = some (.bool p.fl) := rfl
theorem pktC_5 : (pktC p)[5]? = some (.bool p.ec) := rfl
theorem pktC_s : (pktC p).size = 6 := rfl
theorem pktC_g : getC (pktC p) 0 6 = some (pktC p) := rfl
end
abbrev pv (p : Pkt) : Value := .agg (pktC p)
theorem pkt0_C : (#[.int .i64 0, .int .i64 0, .int .i64 0, .bool false, .bool false, .bool false] : Array Value) = pktC pkt0 := rfl
theorem splice_pkt {p q : Pkt} : splice (pktC p) 0 (pktC q).toList = pktC q := rfl
theorem pktC_l {p : Pkt} : (pktC p).toList.length = 6 := rfl
theorem pktC_a {p : Pkt} : (pktC p).toList.all isCell = true := by simp [pktC, isCell]
end Go.Hc

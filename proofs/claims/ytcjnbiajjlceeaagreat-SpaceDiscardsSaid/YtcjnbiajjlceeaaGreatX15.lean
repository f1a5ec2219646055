/- Lost packets: may they be; times; functions over lists of packets and of ranges. -/
import Derived.Test.YtcjnbiajjlceeaaGreatX12
import Derived.Test.YtcjnbiajjlceeaaGreatX14
import Derived.Test.YtcjnbiajjlceeaaGreatX10
set_option linter.unusedSimpArgs false
set_option linter.unusedVariables false
namespace Go.Hc
open Go

def okP (last : Int) (p : Pkt) : Bool := !(decide (p.num ≤ last) || decide (9007199254740991 < p.num) || !(decide (0 ≤ p.time ∧ p.time ≤ 9007199254740991)) || decide (p.size < 1) || decide (65535 < p.size))
def lastN (l : List Pkt) (k : Nat) : Int := if k = 0 then -1 else (l.getD (k - 1) pkt0).num
def okL (l : List Pkt) : Bool := (List.range l.length).all fun k => okP (lastN l k) (l.getD k pkt0)
def checkE (l : List Pkt) : Int := if 256 < l.length then 2 else if okL l then 0 else 2
theorem getDP {l : List Pkt} {k : Nat} (h : k < l.length) : l.getD k pkt0 = l[k] := by simp [List.getD, h]
theorem okL_at {l : List Pkt} (h : okL l = true) {k : Nat} (hk : k < l.length) : okP (lastN l k) l[k] = true := by
  have := List.all_eq_true.1 h k (by simpa using hk)
  rwa [getDP hk] at this
theorem okL_of {l : List Pkt} (h : ∀ k (hk : k < l.length), okP (lastN l k) l[k] = true) : okL l = true := by
  refine List.all_eq_true.2 fun k hk => ?_
  have hk' : k < l.length := by simpa using hk
  rw [getDP hk']; exact h k hk'
theorem okP_spec {last : Int} {p : Pkt} : okP last p = true ↔ last < p.num ∧ p.num ≤ 9007199254740991 ∧ 0 ≤ p.time ∧ p.time ≤ 9007199254740991 ∧ 1 ≤ p.size ∧ p.size ≤ 65535 := by
  unfold okP
  simp only [Bool.not_eq_true', Bool.or_eq_false_iff, decide_eq_false_iff_not, Bool.not_eq_false', decide_eq_true_eq]
  omega

theorem ltime_ev {H : Heap} {n : Int} {R : Value → Heap → Prop} (hR : R (.bool (decide (0 ≤ n ∧ n ≤ 9007199254740991))) H) : EvF P N.loss_isTime #[iv n] H R := by
  refine z94_ev _ _ _ ?_
  simp only [z94_g5, z94_g6, loss_isTime]
  try simp only [bnd_some, brV_t, brV_f, brG_t, brG_f, newE_u, pickE_t, pickE_f, nilV_p, faV_p, ldE_f, ldE_t, rdA_u, stE_p, cells_int, cells_bool, cells_ptr, cells_slice, cells_func, cells_agg, bin_add, bin_sub, bin_mul, bin_eql, bin_neq, bin_lss, bin_leq, bin_gtr, bin_geq, bin_eqlb, bin_neqb, bin_eqlp, bin_eqlp0, bin_neqp, bin_neqp0, bin_eqls, bin_eqls0, un_not, un_neg, len_s, cap_s, ex_t, cv_i, callV_f, Option.bind_some, Option.map_some, Nat.zero_add, Nat.add_zero, Nat.reduceAdd, Nat.reduceMul, size_newB, size_setB, blk_newB_self, own_newB_self, wrA_b, own_setB_m, blk_setB_m, setB_setB, List.getElem?_toArray, List.getElem?_cons_zero, List.getElem?_cons_succ, List.length_cons, List.length_nil, List.all_cons, List.all_nil, isCell_int, isCell_bool, isCell_ptr, isCell_slice, isCell_func, Bool.and_true, Bool.and_self, and_self, if_true, List.size_toArray, and_true, true_and, Nat.reduceLeDiff, Nat.le_refl, Bool.not_true, Bool.not_false, Bool.true_and, Bool.false_and, Bool.and_false, Int.reduceBNe, Int.reduceBEq, Int.reduceLT, Int.reduceLE, decide_true, decide_false]
  refine brV_d (fun h => ?_) (fun h => ?_)
  · simpa [h] using hR
  · simpa [h] using hR
theorem wrong_ev {H : Heap} {c : Nat} {last : Int} {p : Pkt} {R : Value → Heap → Prop} (hc : own H c = some #[iv last]) (hR : ∀ H', Ext [c] H H' → own H' c = some #[iv p.num] → R (.bool (!okP last p)) H') :
    EvF P N.loss_Check_1 #[pv p, ptr c] H R := by
  refine z138_ev _ _ _ _ ?_
  have hlt := own_lt hc
  have hne : c ≠ H.size := by omega
  have en : ∀ t, Ext [] H (newB H t (pktC p)) := fun t => (Ext.refl _ _).newB t _
  simp only [z138_g9, z138_g10, z138_g11, z138_g12, loss_Check_1]
  try simp only [bnd_some, brV_t, brV_f, brG_t, brG_f, newE_u, pickE_t, pickE_f, nilV_p, faV_p, ldE_f, ldE_t, rdA_u, stE_p, cells_int, cells_bool, cells_ptr, cells_slice, cells_func, cells_agg, bin_add, bin_sub, bin_mul, bin_eql, bin_neq, bin_lss, bin_leq, bin_gtr, bin_geq, bin_eqlb, bin_neqb, bin_eqlp, bin_eqlp0, bin_neqp, bin_neqp0, bin_eqls, bin_eqls0, un_not, un_neg, len_s, cap_s, ex_t, cv_i, callV_f, Option.bind_some, Option.map_some, Nat.zero_add, Nat.add_zero, Nat.reduceAdd, Nat.reduceMul, size_newB, size_setB, blk_newB_self, own_newB_self, wrA_b, own_setB_m, blk_setB_m, setB_setB, List.getElem?_toArray, List.getElem?_cons_zero, List.getElem?_cons_succ, List.length_cons, List.length_nil, List.all_cons, List.all_nil, isCell_int, isCell_bool, isCell_ptr, isCell_slice, isCell_func, Bool.and_true, Bool.and_self, and_self, if_true, List.size_toArray, and_true, true_and, Nat.reduceLeDiff, Nat.le_refl, Bool.not_true, Bool.not_false, Bool.true_and, Bool.false_and, Bool.and_false, Int.reduceBNe, Int.reduceBEq, Int.reduceLT, Int.reduceLE, decide_true, decide_false, pktC_0, pktC_1, pktC_2, blk_newB_ne hne, own_blk hc, own_newB_ne hne]
  have fin : ∀ (b : Bool) (t : TypeId), b = !okP last p → R (.bool b) (setB (newB H t (pktC p)) c (splice #[iv last] 0 [iv p.num])) := fun b t hb => by
    rw [hb]
    exact hR _ (((en t).mono (by simp)).setB c _ (Or.inl (by simp))) (own_setB_same (by rw [own_newB_ne hne]; exact hc))
  have store : ∀ {t : TypeId} {k : Heap → Prop}, k (setB (newB H t (pktC p)) c (splice #[iv last] 0 [iv p.num])) → bnd (if 1 ≤ (#[iv last] : Array Value).size then some (setB (newB H t (pktC p)) c (splice #[iv last] 0 [iv p.num])) else none) k := fun h => by simpa using h
  refine brV_d (fun h1 => ?_) (fun h1 => ?_)
  · try simp only [bnd_some, brV_t, brV_f, brG_t, brG_f, newE_u, pickE_t, pickE_f, nilV_p, faV_p, ldE_f, ldE_t, rdA_u, stE_p, cells_int, cells_bool, cells_ptr, cells_slice, cells_func, cells_agg, bin_add, bin_sub, bin_mul, bin_eql, bin_neq, bin_lss, bin_leq, bin_gtr, bin_geq, bin_eqlb, bin_neqb, bin_eqlp, bin_eqlp0, bin_neqp, bin_neqp0, bin_eqls, bin_eqls0, un_not, un_neg, len_s, cap_s, ex_t, cv_i, callV_f, Option.bind_some, Option.map_some, Nat.zero_add, Nat.add_zero, Nat.reduceAdd, Nat.reduceMul, size_newB, size_setB, blk_newB_self, own_newB_self, wrA_b, own_setB_m, blk_setB_m, setB_setB, List.getElem?_toArray, List.getElem?_cons_zero, List.getElem?_cons_succ, List.length_cons, List.length_nil, List.all_cons, List.all_nil, isCell_int, isCell_bool, isCell_ptr, isCell_slice, isCell_func, Bool.and_true, Bool.and_self, and_self, if_true, List.size_toArray, and_true, true_and, Nat.reduceLeDiff, Nat.le_refl, Bool.not_true, Bool.not_false, Bool.true_and, Bool.false_and, Bool.and_false, Int.reduceBNe, Int.reduceBEq, Int.reduceLT, Int.reduceLE, decide_true, decide_false, hc, pktC_0, own_newB_ne hne]
    exact fin _ _ (by unfold okP; rw [decide_eq_true h1]; rfl)
  · refine brV_d (fun h2 => ?_) (fun h2 => ?_)
    · try simp only [bnd_some, brV_t, brV_f, brG_t, brG_f, newE_u, pickE_t, pickE_f, nilV_p, faV_p, ldE_f, ldE_t, rdA_u, stE_p, cells_int, cells_bool, cells_ptr, cells_slice, cells_func, cells_agg, bin_add, bin_sub, bin_mul, bin_eql, bin_neq, bin_lss, bin_leq, bin_gtr, bin_geq, bin_eqlb, bin_neqb, bin_eqlp, bin_eqlp0, bin_neqp, bin_neqp0, bin_eqls, bin_eqls0, un_not, un_neg, len_s, cap_s, ex_t, cv_i, callV_f, Option.bind_some, Option.map_some, Nat.zero_add, Nat.add_zero, Nat.reduceAdd, Nat.reduceMul, size_newB, size_setB, blk_newB_self, own_newB_self, wrA_b, own_setB_m, blk_setB_m, setB_setB, List.getElem?_toArray, List.getElem?_cons_zero, List.getElem?_cons_succ, List.length_cons, List.length_nil, List.all_cons, List.all_nil, isCell_int, isCell_bool, isCell_ptr, isCell_slice, isCell_func, Bool.and_true, Bool.and_self, and_self, if_true, List.size_toArray, and_true, true_and, Nat.reduceLeDiff, Nat.le_refl, Bool.not_true, Bool.not_false, Bool.true_and, Bool.false_and, Bool.and_false, Int.reduceBNe, Int.reduceBEq, Int.reduceLT, Int.reduceLE, decide_true, decide_false, hc, pktC_0, own_newB_ne hne]
      exact fin _ _ (by unfold okP; rw [decide_eq_false h1, decide_eq_true h2]; rfl)
    · refine ltime_ev ?_
      try simp only [bnd_some, brV_t, brV_f, brG_t, brG_f, newE_u, pickE_t, pickE_f, nilV_p, faV_p, ldE_f, ldE_t, rdA_u, stE_p, cells_int, cells_bool, cells_ptr, cells_slice, cells_func, cells_agg, bin_add, bin_sub, bin_mul, bin_eql, bin_neq, bin_lss, bin_leq, bin_gtr, bin_geq, bin_eqlb, bin_neqb, bin_eqlp, bin_eqlp0, bin_neqp, bin_neqp0, bin_eqls, bin_eqls0, un_not, un_neg, len_s, cap_s, ex_t, cv_i, callV_f, Option.bind_some, Option.map_some, Nat.zero_add, Nat.add_zero, Nat.reduceAdd, Nat.reduceMul, size_newB, size_setB, blk_newB_self, own_newB_self, wrA_b, own_setB_m, blk_setB_m, setB_setB, List.getElem?_toArray, List.getElem?_cons_zero, List.getElem?_cons_succ, List.length_cons, List.length_nil, List.all_cons, List.all_nil, isCell_int, isCell_bool, isCell_ptr, isCell_slice, isCell_func, Bool.and_true, Bool.and_self, and_self, if_true, List.size_toArray, and_true, true_and, Nat.reduceLeDiff, Nat.le_refl, Bool.not_true, Bool.not_false, Bool.true_and, Bool.false_and, Bool.and_false, Int.reduceBNe, Int.reduceBEq, Int.reduceLT, Int.reduceLE, decide_true, decide_false]
      refine brV_i (fun h3 => ?_) (fun h3 => ?_)
      · try simp only [bnd_some, brV_t, brV_f, brG_t, brG_f, newE_u, pickE_t, pickE_f, nilV_p, faV_p, ldE_f, ldE_t, rdA_u, stE_p, cells_int, cells_bool, cells_ptr, cells_slice, cells_func, cells_agg, bin_add, bin_sub, bin_mul, bin_eql, bin_neq, bin_lss, bin_leq, bin_gtr, bin_geq, bin_eqlb, bin_neqb, bin_eqlp, bin_eqlp0, bin_neqp, bin_neqp0, bin_eqls, bin_eqls0, un_not, un_neg, len_s, cap_s, ex_t, cv_i, callV_f, Option.bind_some, Option.map_some, Nat.zero_add, Nat.add_zero, Nat.reduceAdd, Nat.reduceMul, size_newB, size_setB, blk_newB_self, own_newB_self, wrA_b, own_setB_m, blk_setB_m, setB_setB, List.getElem?_toArray, List.getElem?_cons_zero, List.getElem?_cons_succ, List.length_cons, List.length_nil, List.all_cons, List.all_nil, isCell_int, isCell_bool, isCell_ptr, isCell_slice, isCell_func, Bool.and_true, Bool.and_self, and_self, if_true, List.size_toArray, and_true, true_and, Nat.reduceLeDiff, Nat.le_refl, Bool.not_true, Bool.not_false, Bool.true_and, Bool.false_and, Bool.and_false, Int.reduceBNe, Int.reduceBEq, Int.reduceLT, Int.reduceLE, decide_true, decide_false, hc, pktC_0, own_newB_ne hne]
        exact fin _ _ (by unfold okP; rw [decide_eq_false h1, decide_eq_false h2, h3]; rfl)
      · try simp only [bnd_some, brV_t, brV_f, brG_t, brG_f, newE_u, pickE_t, pickE_f, nilV_p, faV_p, ldE_f, ldE_t, rdA_u, stE_p, cells_int, cells_bool, cells_ptr, cells_slice, cells_func, cells_agg, bin_add, bin_sub, bin_mul, bin_eql, bin_neq, bin_lss, bin_leq, bin_gtr, bin_geq, bin_eqlb, bin_neqb, bin_eqlp, bin_eqlp0, bin_neqp, bin_neqp0, bin_eqls, bin_eqls0, un_not, un_neg, len_s, cap_s, ex_t, cv_i, callV_f, Option.bind_some, Option.map_some, Nat.zero_add, Nat.add_zero, Nat.reduceAdd, Nat.reduceMul, size_newB, size_setB, blk_newB_self, own_newB_self, wrA_b, own_setB_m, blk_setB_m, setB_setB, List.getElem?_toArray, List.getElem?_cons_zero, List.getElem?_cons_succ, List.length_cons, List.length_nil, List.all_cons, List.all_nil, isCell_int, isCell_bool, isCell_ptr, isCell_slice, isCell_func, Bool.and_true, Bool.and_self, and_self, if_true, List.size_toArray, and_true, true_and, Nat.reduceLeDiff, Nat.le_refl, Bool.not_true, Bool.not_false, Bool.true_and, Bool.false_and, Bool.and_false, Int.reduceBNe, Int.reduceBEq, Int.reduceLT, Int.reduceLE, decide_true, decide_false, pktC_2]
        refine brV_d (fun h4 => ?_) (fun h4 => ?_)
        · try simp only [bnd_some, brV_t, brV_f, brG_t, brG_f, newE_u, pickE_t, pickE_f, nilV_p, faV_p, ldE_f, ldE_t, rdA_u, stE_p, cells_int, cells_bool, cells_ptr, cells_slice, cells_func, cells_agg, bin_add, bin_sub, bin_mul, bin_eql, bin_neq, bin_lss, bin_leq, bin_gtr, bin_geq, bin_eqlb, bin_neqb, bin_eqlp, bin_eqlp0, bin_neqp, bin_neqp0, bin_eqls, bin_eqls0, un_not, un_neg, len_s, cap_s, ex_t, cv_i, callV_f, Option.bind_some, Option.map_some, Nat.zero_add, Nat.add_zero, Nat.reduceAdd, Nat.reduceMul, size_newB, size_setB, blk_newB_self, own_newB_self, wrA_b, own_setB_m, blk_setB_m, setB_setB, List.getElem?_toArray, List.getElem?_cons_zero, List.getElem?_cons_succ, List.length_cons, List.length_nil, List.all_cons, List.all_nil, isCell_int, isCell_bool, isCell_ptr, isCell_slice, isCell_func, Bool.and_true, Bool.and_self, and_self, if_true, List.size_toArray, and_true, true_and, Nat.reduceLeDiff, Nat.le_refl, Bool.not_true, Bool.not_false, Bool.true_and, Bool.false_and, Bool.and_false, Int.reduceBNe, Int.reduceBEq, Int.reduceLT, Int.reduceLE, decide_true, decide_false, hc, pktC_0, own_newB_ne hne]
          exact fin _ _ (by unfold okP; rw [decide_eq_false h1, decide_eq_false h2, h3, decide_eq_true h4]; rfl)
        · try simp only [bnd_some, brV_t, brV_f, brG_t, brG_f, newE_u, pickE_t, pickE_f, nilV_p, faV_p, ldE_f, ldE_t, rdA_u, stE_p, cells_int, cells_bool, cells_ptr, cells_slice, cells_func, cells_agg, bin_add, bin_sub, bin_mul, bin_eql, bin_neq, bin_lss, bin_leq, bin_gtr, bin_geq, bin_eqlb, bin_neqb, bin_eqlp, bin_eqlp0, bin_neqp, bin_neqp0, bin_eqls, bin_eqls0, un_not, un_neg, len_s, cap_s, ex_t, cv_i, callV_f, Option.bind_some, Option.map_some, Nat.zero_add, Nat.add_zero, Nat.reduceAdd, Nat.reduceMul, size_newB, size_setB, blk_newB_self, own_newB_self, wrA_b, own_setB_m, blk_setB_m, setB_setB, List.getElem?_toArray, List.getElem?_cons_zero, List.getElem?_cons_succ, List.length_cons, List.length_nil, List.all_cons, List.all_nil, isCell_int, isCell_bool, isCell_ptr, isCell_slice, isCell_func, Bool.and_true, Bool.and_self, and_self, if_true, List.size_toArray, and_true, true_and, Nat.reduceLeDiff, Nat.le_refl, Bool.not_true, Bool.not_false, Bool.true_and, Bool.false_and, Bool.and_false, Int.reduceBNe, Int.reduceBEq, Int.reduceLT, Int.reduceLE, decide_true, decide_false, hc, pktC_0, pktC_2, own_newB_ne hne]
          exact fin _ _ (by unfold okP; rw [decide_eq_false h1, decide_eq_false h2, h3, decide_eq_false h4]; simp)

/-- a function over a list of packets is asked of each, till it says yes -/
theorem IndexP_ev {H : Heap} {v f : Value} {l : List Pkt} {R : Value → Heap → Prop} (I : Nat → Heap → Prop) (h0 : I 0 H) (hv : ∀ k K, I k K → ShowA pktE K v l)
    (step : ∀ k (hk : k < l.length) K, I k K → callV P f [pv l[k]] K fun x K' => ∃ b, x = .bool b ∧ (b = false → I (k + 1) K') ∧ (b = true → R (iv k) K'))
    (hR : ∀ K, I l.length K → R (iv (-1)) K) : EvF P N.slices_IndexFunc_Packet #[v, f] H R := by
  refine z171_ev _ _ _ _ ?_
  have hv0 := hv 0 H h0
  have hsm := hv0.small
  simp only [z171_g25, z171_g26, z171_g28, z171_g29, z171_g30, z171_g31, z171_g32, z171_g33, z171_s27, z171_l38, slices_IndexFunc_Packet]
  try simp only [ew, Nat.reduceAdd, Nat.reduceMul, Nat.reduceLeDiff, Int.reduceBNe, Int.reduceBEq, Int.reduceLT, Int.reduceLE, hv0.len]
  refine ⟨fun x K => ∃ k : Nat, x = iv k ∧ k ≤ l.length ∧ I k K, fun x _ => (match x with | .int _ k => (l.length - k).toNat | _ => 0), ⟨0, rfl, by omega, h0⟩, ?_⟩
  rintro x K ⟨k, rfl, hk, hI⟩
  try simp only [ew, Nat.reduceAdd, Nat.reduceMul, Nat.reduceLeDiff, Int.reduceBNe, Int.reduceBEq, Int.reduceLT, Int.reduceLE]
  refine brV_d (fun hlt => ?_) (fun hge => ?_)
  · have hk' : k < l.length := by omega
    obtain ⟨b, o, c, i1, _, _, i4⟩ := (hv k K hI).ix (by decide) hk' (rfl : (k : Int) = k)
    have i1' : ixSV 6 v (iv k) = _ := i1
    have i4' : ldE true 6 _ K = some (pv l[k]) := i4
    try simp only [ew, Nat.reduceAdd, Nat.reduceMul, Nat.reduceLeDiff, Int.reduceBNe, Int.reduceBEq, Int.reduceLT, Int.reduceLE, i1', i4']
    refine callV_mono (fun x K' hx => ?_) (step k hk' K hI)
    obtain ⟨b, rfl, hf, ht⟩ := hx
    refine brV_i (fun hb => ?_) (fun hb => ?_)
    · exact ht hb
    · have w5 : IntKind.i64.wrap ((k : Int) + 1) = ((k + 1 : Nat) : Int) := by rw [wrap_in (by omega)]; omega
      try simp only [ew, Nat.reduceAdd, Nat.reduceMul, Nat.reduceLeDiff, Int.reduceBNe, Int.reduceBEq, Int.reduceLT, Int.reduceLE, bin_add, w5]
      exact ⟨⟨k + 1, rfl, by omega, hf hb⟩, by show _ < _; omega⟩
  · have : k = l.length := by omega
    subst this
    try simp only [ew, Nat.reduceAdd, Nat.reduceMul, Nat.reduceLeDiff, Int.reduceBNe, Int.reduceBEq, Int.reduceLT, Int.reduceLE]
    exact hR K hI
theorem ContainsP_ev {H : Heap} {v f : Value} {l : List Pkt} {R : Value → Heap → Prop} (I : Nat → Heap → Prop) (h0 : I 0 H) (hv : ∀ k K, I k K → ShowA pktE K v l)
    (step : ∀ k (hk : k < l.length) K, I k K → callV P f [pv l[k]] K fun x K' => ∃ b, x = .bool b ∧ (b = false → I (k + 1) K') ∧ (b = true → R (.bool true) K'))
    (hR : ∀ K, I l.length K → R (.bool false) K) : EvF P N.slices_ContainsFunc_Packet #[v, f] H R := by
  refine z139_ev _ _ _ _ ?_
  simp only [z139_g5, z139_g6, slices_ContainsFunc_Packet]
  refine IndexP_ev I h0 hv (fun k hk K hI => callV_mono (fun x K' hx => ?_) (step k hk K hI)) (fun K hI => ?_)
  · obtain ⟨b, rfl, hf, ht⟩ := hx
    refine ⟨b, rfl, hf, fun hb => ?_⟩
    have : decide ((0 : Int) ≤ (k : Int)) = true := by simp
    try simp only [ew, Nat.reduceAdd, Nat.reduceMul, Nat.reduceLeDiff, Int.reduceBNe, Int.reduceBEq, Int.reduceLT, Int.reduceLE, this]
    exact ht hb
  · try simp only [ew, Nat.reduceAdd, Nat.reduceMul, Nat.reduceLeDiff, Int.reduceBNe, Int.reduceBEq, Int.reduceLT, Int.reduceLE]
    exact hR K hI
theorem IndexR_ev {H : Heap} {v f : Value} {l : List Rng} {R : Value → Heap → Prop} (I : Nat → Heap → Prop) (h0 : I 0 H) (hv : ∀ k K, I k K → ShowA rngE K v l)
    (step : ∀ k (hk : k < l.length) K, I k K → callV P f [.agg (rngC l[k])] K fun x K' => ∃ b, x = .bool b ∧ (b = false → I (k + 1) K') ∧ (b = true → R (iv k) K'))
    (hR : ∀ K, I l.length K → R (iv (-1)) K) : EvF P N.slices_IndexFunc_Range #[v, f] H R := by
  refine z150_ev _ _ _ _ ?_
  have hv0 := hv 0 H h0
  have hsm := hv0.small
  simp only [z150_g25, z150_g26, z150_g28, z150_g29, z150_g30, z150_g31, z150_g32, z150_g33, z150_s27, z150_l38, slices_IndexFunc_Range]
  try simp only [ew, Nat.reduceAdd, Nat.reduceMul, Nat.reduceLeDiff, Int.reduceBNe, Int.reduceBEq, Int.reduceLT, Int.reduceLE, hv0.len]
  refine ⟨fun x K => ∃ k : Nat, x = iv k ∧ k ≤ l.length ∧ I k K, fun x _ => (match x with | .int _ k => (l.length - k).toNat | _ => 0), ⟨0, rfl, by omega, h0⟩, ?_⟩
  rintro x K ⟨k, rfl, hk, hI⟩
  try simp only [ew, Nat.reduceAdd, Nat.reduceMul, Nat.reduceLeDiff, Int.reduceBNe, Int.reduceBEq, Int.reduceLT, Int.reduceLE]
  refine brV_d (fun hlt => ?_) (fun hge => ?_)
  · have hk' : k < l.length := by omega
    obtain ⟨b, o, c, i1, _, _, i4⟩ := (hv k K hI).ix (by decide) hk' (rfl : (k : Int) = k)
    have i1' : ixSV 2 v (iv k) = _ := i1
    have i4' : ldE true 2 _ K = some (.agg (rngC l[k])) := i4
    try simp only [ew, Nat.reduceAdd, Nat.reduceMul, Nat.reduceLeDiff, Int.reduceBNe, Int.reduceBEq, Int.reduceLT, Int.reduceLE, i1', i4']
    refine callV_mono (fun x K' hx => ?_) (step k hk' K hI)
    obtain ⟨b, rfl, hf, ht⟩ := hx
    refine brV_i (fun hb => ?_) (fun hb => ?_)
    · exact ht hb
    · have w5 : IntKind.i64.wrap ((k : Int) + 1) = ((k + 1 : Nat) : Int) := by rw [wrap_in (by omega)]; omega
      try simp only [ew, Nat.reduceAdd, Nat.reduceMul, Nat.reduceLeDiff, Int.reduceBNe, Int.reduceBEq, Int.reduceLT, Int.reduceLE, bin_add, w5]
      exact ⟨⟨k + 1, rfl, by omega, hf hb⟩, by show _ < _; omega⟩
  · have : k = l.length := by omega
    subst this
    try simp only [ew, Nat.reduceAdd, Nat.reduceMul, Nat.reduceLeDiff, Int.reduceBNe, Int.reduceBEq, Int.reduceLT, Int.reduceLE]
    exact hR K hI
theorem ContainsR_ev {H : Heap} {v f : Value} {l : List Rng} {R : Value → Heap → Prop} (I : Nat → Heap → Prop) (h0 : I 0 H) (hv : ∀ k K, I k K → ShowA rngE K v l)
    (step : ∀ k (hk : k < l.length) K, I k K → callV P f [.agg (rngC l[k])] K fun x K' => ∃ b, x = .bool b ∧ (b = false → I (k + 1) K') ∧ (b = true → R (.bool true) K'))
    (hR : ∀ K, I l.length K → R (.bool false) K) : EvF P N.slices_ContainsFunc_Range #[v, f] H R := by
  refine z102_ev _ _ _ _ ?_
  simp only [z102_g5, z102_g6, slices_ContainsFunc_Range]
  refine IndexR_ev I h0 hv (fun k hk K hI => callV_mono (fun x K' hx => ?_) (step k hk K hI)) (fun K hI => ?_)
  · obtain ⟨b, rfl, hf, ht⟩ := hx
    refine ⟨b, rfl, hf, fun hb => ?_⟩
    have : decide ((0 : Int) ≤ (k : Int)) = true := by simp
    try simp only [ew, Nat.reduceAdd, Nat.reduceMul, Nat.reduceLeDiff, Int.reduceBNe, Int.reduceBEq, Int.reduceLT, Int.reduceLE, this]
    exact ht hb
  · try simp only [ew, Nat.reduceAdd, Nat.reduceMul, Nat.reduceLeDiff, Int.reduceBNe, Int.reduceBEq, Int.reduceLT, Int.reduceLE]
    exact hR K hI

theorem lossCheck_ev {H : Heap} {v : Value} {l : List Pkt} {R : Value → Heap → Prop} (hv : ShowA pktE H v l) (hR : ∀ H', Ext [] H H' → R (iv (checkE l)) H') : EvF P N.loss_Check #[v] H R := by
  refine z93_ev _ _ _ ?_
  have en : ∀ t c c', Ext [] H (setB (newB H t c) H.size c') := fun t c c' => ((Ext.refl _ _).newB t c).setB _ _ (Or.inr (Nat.le_refl _))
  simp only [z93_g15, z93_g16, z93_g17, z93_g18, z93_g19, z93_g20, loss_Check]
  try simp only [bnd_some, brV_t, brV_f, brG_t, brG_f, newE_u, pickE_t, pickE_f, nilV_p, faV_p, ldE_f, ldE_t, rdA_u, stE_p, cells_int, cells_bool, cells_ptr, cells_slice, cells_func, cells_agg, bin_add, bin_sub, bin_mul, bin_eql, bin_neq, bin_lss, bin_leq, bin_gtr, bin_geq, bin_eqlb, bin_neqb, bin_eqlp, bin_eqlp0, bin_neqp, bin_neqp0, bin_eqls, bin_eqls0, un_not, un_neg, len_s, cap_s, ex_t, cv_i, callV_f, Option.bind_some, Option.map_some, Nat.zero_add, Nat.add_zero, Nat.reduceAdd, Nat.reduceMul, size_newB, size_setB, blk_newB_self, own_newB_self, wrA_b, own_setB_m, blk_setB_m, setB_setB, List.getElem?_toArray, List.getElem?_cons_zero, List.getElem?_cons_succ, List.length_cons, List.length_nil, List.all_cons, List.all_nil, isCell_int, isCell_bool, isCell_ptr, isCell_slice, isCell_func, Bool.and_true, Bool.and_self, and_self, if_true, List.size_toArray, and_true, true_and, Nat.reduceLeDiff, Nat.le_refl, Bool.not_true, Bool.not_false, Bool.true_and, Bool.false_and, Bool.and_false, Int.reduceBNe, Int.reduceBEq, Int.reduceLT, Int.reduceLE, decide_true, decide_false, hv.len, List.size_toArray]
  generalize hK : setB (newB H _ _) _ _ = K
  have e0 : Ext [] H K := by rw [← hK]; exact en _ _ _
  have q1 : own K H.size = some #[iv (-1)] := by rw [← hK]; exact own_setB_same own_newB_self
  refine brV_d (fun hbig => ?_) (fun hsmall => ?_)
  · have : checkE l = 2 := by unfold checkE; rw [if_pos (by omega)]
    have := hR K e0
    rw [‹checkE l = 2›] at this; exact this
  · have hs : ¬ 256 < l.length := by omega
    have kE : ∀ {K K' : Heap}, Ext [H.size] K K' → Ext [] H K → Ext [] H K' := fun h h' => h'.thru h (by simp)
    refine ContainsP_ev (fun k K => Ext [] H K ∧ own K H.size = some #[iv (lastN l k)] ∧ ∀ j (hj : j < l.length), j < k → okP (lastN l j) l[j] = true) ⟨e0, q1, by omega⟩ (fun k K h => hv.ext h.1) (fun k hk K hI => ?_) (fun K hI => ?_)
    · obtain ⟨he, ho, hall⟩ := hI
      refine wrong_ev ho fun K' e' o' => ⟨_, rfl, fun hb => ⟨kE e' he, ?_, fun j hj hjk => ?_⟩, fun hb => ?_⟩
      · have : lastN l (k + 1) = l[k].num := by unfold lastN; rw [if_neg (by omega), Nat.add_sub_cancel, getDP hk]
        rw [this]; exact o'
      · rcases Nat.lt_or_ge j k with h | h
        · exact hall j hj h
        · have : j = k := by omega
          subst this; simpa using hb
      · have hbad : okL l = false := by
          cases h : okL l with
          | false => rfl
          | true => have := okL_at h hk; rw [this] at hb; cases hb
        try simp only [ew, Nat.reduceAdd, Nat.reduceMul, Nat.reduceLeDiff, Int.reduceBNe, Int.reduceBEq, Int.reduceLT, Int.reduceLE]
        have := hR K' (kE e' he)
        unfold checkE at this; rw [if_neg hs, hbad] at this; exact this
    · obtain ⟨he, _, hall⟩ := hI
      have hgood : okL l = true := okL_of fun k hk => hall k hk hk
      try simp only [ew, Nat.reduceAdd, Nat.reduceMul, Nat.reduceLeDiff, Int.reduceBNe, Int.reduceBEq, Int.reduceLT, Int.reduceLE]
      have := hR K he
      unfold checkE at this; rw [if_neg hs, hgood] at this; exact this
end Go.Hc
set_option linter.unusedSimpArgs false
set_option linter.unusedVariables false
namespace Go.Hc
open Go

theorem OwnL.showA {A : Type} {E : Enc A} {H : Heap} {v : Value} {S : List Nat} {l : List A} (h : OwnL E H v S l) : ShowA E H v l := by
  have h2 := h.show
  obtain ⟨base, cap, e, hm, _⟩ := h.show
  exact ⟨⟨base, cap, e, hm⟩, .inr h2⟩
theorem box_new {K : Heap} {t : TypeId} {c c' : Array Value} : Ext [] K (setB (newB K t c) K.size c') ∧ own (setB (newB K t c) K.size c') K.size = some c' ∧ (setB (newB K t c) K.size c').size = K.size + 1 :=
  ⟨((Ext.refl _ _).newB _ _).setB _ _ (Or.inr (Nat.le_refl _)), own_setB_same own_newB_self, by rw [size_setB, size_newB]⟩
theorem CutOK.of_own {A : Type} {E : Enc A} {H : Heap} {v : Value} {S : List Nat} {l : List A} (h : OwnL E H v S l) : CutOK v := by
  cases h with
  | nil => exact ⟨_, _, _, rfl, Nat.le_refl _, .inl rfl⟩
  | mk ho hr hc hl hm => exact ⟨_, _, _, rfl, hc, .inr fun a ha => by cases ha; rfl⟩
structure Rtt where
  latest : Int
  least : Int
  smooth : Int
  var : Int
  first : Int
deriving DecidableEq
def rttC (r : Rtt) : Array Value := #[iv r.latest, iv r.least, iv r.smooth, iv r.var, iv r.first]
abbrev rtv (r : Rtt) : Value := .agg (rttC r)
section
variable {r : Rtt}
theorem rttC_0 : (rttC r)[0]? = some (iv r.latest) := rfl
theorem rttC_1 : (rttC r)[1]? = some (iv r.least) := rfl
theorem rttC_2 : (rttC r)[2]? = some (iv r.smooth) := rfl
theorem rttC_3 : (rttC r)[3]? = some (iv r.var) := rfl
theorem rttC_4 : (rttC r)[4]? = some (iv r.first) := rfl
theorem rttC_g : getC (rttC r) 0 5 = some (rttC r) := rfl
end
def rtt0 : Rtt := ⟨0, 0, 0, 0, 0⟩
theorem rtt0_C : (#[.int .i64 0, .int .i64 0, .int .i64 0, .int .i64 0, .int .i64 0] : Array Value) = rttC rtt0 := rfl
theorem rtt_bne {a b : Rtt} : binV (.agg [true, true, true, true, true]) .neq (.agg (rttC a)) (.agg (rttC b)) = some (.bool (!(decide (a = b)))) := by
  have : decide (a = b) = ((a.latest == b.latest) && ((a.least == b.least) && ((a.smooth == b.smooth) && ((a.var == b.var) && (a.first == b.first))))) := by
    rw [Bool.eq_iff_iff]; cases a; cases b; simp
  simp only [binV, eqV, notO, rttC, cellsEq, cellEq, this, if_true, Bool.and_true]
theorem st_rtt {t : TypeId} {K : Heap} {c : Array Value} {p : Rtt} (hc : c.size = 5) : stE 5 (.pointer (some ⟨K.size, 0, none⟩)) (rtv p) (newB K t c) = some (setB (newB K t c) K.size (rttC p)) := by
  rw [stE_p, show (rtv p).cells = rttC p from rfl, if_pos (show (rttC p).size = 5 from rfl), wrA_b, own_newB_self]
  have h1 : splice c 0 (rttC p).toList = rttC p := by
    obtain ⟨c⟩ := c
    match c, hc with
    | [a, b, x, y, z], _ => rfl
  have h2 : (rttC p).toList.all isCell = true := by simp [rttC, isCell]
  have h3 : (rttC p).toList.length = 5 := rfl
  simp only [Option.bind_some, h1, h2, h3, hc]
  simp
def isT (n : Int) : Bool := decide (0 ≤ n ∧ n ≤ 9007199254740991)
def clampT (n : Int) : Int := max 0 (min n 9007199254740991)
theorem clampT_r (n : Int) : 0 ≤ clampT n ∧ clampT n ≤ 9007199254740991 := by unfold clampT; omega
theorem rtime_ev {H : Heap} {v : Value} {l : List Int} {R : Value → Heap → Prop} (hv : ShowA intE H v l) (hR : R (.bool (l.all isT)) H) : EvF P N.rtt_isTime #[v] H R := by
  refine z141_ev _ _ _ ?_
  have hsm := hv.small
  simp only [z141_g25, z141_g26, z141_g28, z141_g29, z141_g30, z141_g31, z141_g32, z141_g33, z141_s27, z141_l38, rtt_isTime]
  try simp only [ew, Nat.reduceAdd, Nat.reduceMul, Nat.reduceLeDiff, Int.reduceBNe, Int.reduceBEq, Int.reduceLT, Int.reduceLE, hv.len]
  refine ⟨fun x K => ∃ k : Nat, x = iv k ∧ k ≤ l.length ∧ K = H ∧ (l.drop k).all isT = l.all isT, fun x _ => (match x with | .int _ k => (l.length - k).toNat | _ => 0), ⟨0, rfl, by omega, rfl, by simp⟩, ?_⟩
  rintro x K ⟨k, rfl, hk, rfl, hall⟩
  try simp only [ew, Nat.reduceAdd, Nat.reduceMul, Nat.reduceLeDiff, Int.reduceBNe, Int.reduceBEq, Int.reduceLT, Int.reduceLE]
  refine brV_d (fun hlt => ?_) (fun hge => ?_)
  · have hk' : k < l.length := by omega
    obtain ⟨b, o, c, i1, i2, i3, _⟩ := hv.ix (by decide) hk' (rfl : (k : Int) = k)
    have i1' : ixSV 1 v (iv k) = _ := i1
    have i3' : c[o]? = some (iv l[k]) := i3 0 (by decide)
    have w5 : IntKind.i64.wrap ((k : Int) + 1) = ((k + 1 : Nat) : Int) := by rw [wrap_in (by omega)]; omega
    rw [List.drop_eq_getElem_cons hk', List.all_cons] at hall
    try simp only [ew, Nat.reduceAdd, Nat.reduceMul, Nat.reduceLeDiff, Int.reduceBNe, Int.reduceBEq, Int.reduceLT, Int.reduceLE, i1', ldE_f, i2, i3', Option.bind_some]
    have bad : isT l[k] = false → R (.bool false) K := fun h => by rw [← hall, h] at hR; exact hR
    refine brV_d (fun h1 => ?_) (fun h1 => ?_)
    · exact bad (by unfold isT; simp; omega)
    · try simp only [ew, Nat.reduceAdd, Nat.reduceMul, Nat.reduceLeDiff, Int.reduceBNe, Int.reduceBEq, Int.reduceLT, Int.reduceLE]
      refine brV_d (fun h2 => ?_) (fun h2 => ?_)
      · exact bad (by unfold isT; simp; omega)
      · have hg : isT l[k] = true := by unfold isT; simp; omega
        rw [hg, Bool.true_and] at hall
        try simp only [ew, Nat.reduceAdd, Nat.reduceMul, Nat.reduceLeDiff, Int.reduceBNe, Int.reduceBEq, Int.reduceLT, Int.reduceLE, bin_add, w5]
        refine ⟨⟨k + 1, rfl, by omega, ?_⟩, by show _ < _; omega⟩
        first
          | exact hall
          | exact ⟨rfl, hall⟩
  · have : k = l.length := by omega
    subst this
    rw [List.drop_length] at hall
    rw [← hall] at hR
    try simp only [ew, Nat.reduceAdd, Nat.reduceMul, Nat.reduceLeDiff, Int.reduceBNe, Int.reduceBEq, Int.reduceLT, Int.reduceLE]
    exact hR
def rttOK (r : Rtt) : Bool :=
  if r.first = -1 then decide (r.latest = 0 ∧ r.least = 0 ∧ 1000000 ≤ r.smooth ∧ r.smooth ≤ 60000000000 ∧ r.var = r.smooth / 2)
  else isT r.first && isT r.latest && isT r.least && isT r.smooth && isT r.var && decide (r.least ≤ min r.latest r.smooth)
theorem rttOK_r {r : Rtt} (h : rttOK r = true) : 0 ≤ r.smooth ∧ r.smooth ≤ 9007199254740991 ∧ 0 ≤ r.var ∧ r.var ≤ 9007199254740991 := by
  unfold rttOK isT at h
  split at h <;> simp at h <;> omega
def In64r (r : Rtt) : Prop := In64 r.latest ∧ In64 r.least ∧ In64 r.smooth ∧ In64 r.var ∧ In64 r.first
theorem rnew_ev {H : Heap} {n : Int} {R : Value → Heap → Prop} (hn : In64 n) (hb : (n < 1000000 ∨ 60000000000 < n) → ∀ H', Ext [] H H' → R (.tuple #[rtv rtt0, iv 9]) H')
    (hg : 1000000 ≤ n ∧ n ≤ 60000000000 → ∀ H', Ext [] H H' → R (.tuple #[rtv ⟨0, 0, n, n / 2, -1⟩, iv 0]) H') : EvF P N.rtt_New #[iv n] H R := by
  refine z140_ev _ _ _ ?_
  have hsz : (#[.int .i64 0, .int .i64 0, .int .i64 0, .int .i64 0, .int .i64 0] : Array Value).size = 5 := rfl
  have hb0 : buildV #[(.int .i64 0), (.int .i64 0), (.int .i64 0), (.int .i64 0), (.int .i64 0)] (places [(0, 1), (1, 1), (2, 1), (3, 1), (4, 1)]) [] = some (rtv rtt0) := rfl
  have hb1 : ∀ x y : Int, buildV #[(.int .i64 0), (.int .i64 0), (.int .i64 0), (.int .i64 0), (.int .i64 0)] (places [(0, 1), (1, 1), (2, 1), (3, 1), (4, 1)]) [(2, iv x), (3, iv y), (4, (.int .i64 (-1)))] = some (rtv ⟨0, 0, x, y, -1⟩) := fun _ _ => rfl
  simp only [rtt_New, z140_g11, z140_g12, z140_g13, z140_g14]
  try simp only [ew, Nat.reduceAdd, Nat.reduceMul, Nat.reduceLeDiff, Int.reduceBNe, Int.reduceBEq, Int.reduceLT, Int.reduceLE]
  have bad : (n < 1000000 ∨ 60000000000 < n) → _ := hb
  refine brV_d (fun h1 => ?_) (fun h1 => ?_)
  · try simp only [ew, Nat.reduceAdd, Nat.reduceMul, Nat.reduceLeDiff, Int.reduceBNe, Int.reduceBEq, Int.reduceLT, Int.reduceLE, hb0, st_rtt hsz]
    generalize hK : setB (newB H _ _) _ _ = K
    have e : Ext [] H K := by rw [← hK]; exact box_new.1
    have q : own K H.size = some (rttC rtt0) := by rw [← hK]; exact box_new.2.1
    try simp only [ew, Nat.reduceAdd, Nat.reduceMul, Nat.reduceLeDiff, Int.reduceBNe, Int.reduceBEq, Int.reduceLT, Int.reduceLE, ldE_t, rdA_u, own_blk q, rttC_g]
    exact hb (.inl h1) K e
  · try simp only [ew, Nat.reduceAdd, Nat.reduceMul, Nat.reduceLeDiff, Int.reduceBNe, Int.reduceBEq, Int.reduceLT, Int.reduceLE]
    refine brV_d (fun h2 => ?_) (fun h2 => ?_)
    · try simp only [ew, Nat.reduceAdd, Nat.reduceMul, Nat.reduceLeDiff, Int.reduceBNe, Int.reduceBEq, Int.reduceLT, Int.reduceLE, hb0, st_rtt hsz]
      generalize hK : setB (newB H _ _) _ _ = K
      have e : Ext [] H K := by rw [← hK]; exact box_new.1
      have q : own K H.size = some (rttC rtt0) := by rw [← hK]; exact box_new.2.1
      try simp only [ew, Nat.reduceAdd, Nat.reduceMul, Nat.reduceLeDiff, Int.reduceBNe, Int.reduceBEq, Int.reduceLT, Int.reduceLE, ldE_t, rdA_u, own_blk q, rttC_g]
      exact hb (.inr h2) K e
    · have w : IntKind.i64.wrap (n.tdiv 2) = n / 2 := by rw [Int.tdiv_eq_ediv_of_nonneg (by omega), wrap_in (by omega)]
      try simp only [ew, Nat.reduceAdd, Nat.reduceMul, Nat.reduceLeDiff, Int.reduceBNe, Int.reduceBEq, Int.reduceLT, Int.reduceLE, bin_quo (show (2 : Int) ≠ 0 by decide), w, hb1, st_rtt hsz]
      generalize hK : setB (newB H _ _) _ _ = K
      have e : Ext [] H K := by rw [← hK]; exact box_new.1
      have q : own K H.size = some (rttC ⟨0, 0, n, n / 2, -1⟩) := by rw [← hK]; exact box_new.2.1
      try simp only [ew, Nat.reduceAdd, Nat.reduceMul, Nat.reduceLeDiff, Int.reduceBNe, Int.reduceBEq, Int.reduceLT, Int.reduceLE, ldE_t, rdA_u, own_blk q, rttC_g]
      exact hg ⟨by omega, by omega⟩ K e
theorem rcheck_ev {H : Heap} {r : Rtt} {R : Value → Heap → Prop} (hr : In64r r) (hR : ∀ H', Ext [] H H' → R (iv (if rttOK r = true then 0 else 2)) H') : EvF P N.rtt_Check #[rtv r] H R := by
  refine z95_ev _ _ _ ?_
  have good : rttOK r = true → ∀ H', Ext [] H H' → R (iv 0) H' := fun h H' e => by have := hR H' e; rw [if_pos h] at this; exact this
  have bad : ¬ rttOK r = true → ∀ H', Ext [] H H' → R (iv 2) H' := fun h H' e => by have := hR H' e; rw [if_neg h] at this; exact this
  have hsz : (#[.int .i64 0, .int .i64 0, .int .i64 0, .int .i64 0, .int .i64 0] : Array Value).size = 5 := rfl
  obtain ⟨r1, r2, r3, r4, r5⟩ := hr
  simp only [rtt_Check, z95_g25, z95_g26]
  try simp only [ew, Nat.reduceAdd, Nat.reduceMul, Nat.reduceLeDiff, Int.reduceBNe, Int.reduceBEq, Int.reduceLT, Int.reduceLE]
  generalize hK1 : newB H _ _ = K1
  have e1 : Ext [] H K1 := by rw [← hK1]; exact (Ext.refl _ _).newB _ _
  have q1 : own K1 H.size = some (rttC r) := by rw [← hK1]; exact own_newB_self
  try simp only [ew, Nat.reduceAdd, Nat.reduceMul, Nat.reduceLeDiff, Int.reduceBNe, Int.reduceBEq, Int.reduceLT, Int.reduceLE, ldE_f, own_blk q1, rttC_4]
  refine brV_d (fun hf => ?_) (fun hf => ?_)
  · simp only [z95_g27, z95_g28, z95_g29, z95_g30]
    try simp only [ew, Nat.reduceAdd, Nat.reduceMul, Nat.reduceLeDiff, Int.reduceBNe, Int.reduceBEq, Int.reduceLT, Int.reduceLE, ldE_f, own_blk q1, rttC_2]
    have hOK : rttOK r = decide (r.latest = 0 ∧ r.least = 0 ∧ 1000000 ≤ r.smooth ∧ r.smooth ≤ 60000000000 ∧ r.var = r.smooth / 2) := if_pos hf
    refine rnew_ev r3 (fun hb K2 e2 => ?_) (fun hg K2 e2 => ?_)
    · try simp only [ew, Nat.reduceAdd, Nat.reduceMul, Nat.reduceLeDiff, Int.reduceBNe, Int.reduceBEq, Int.reduceLT, Int.reduceLE, st_rtt hsz]
      generalize hK3 : setB (newB K2 _ _) _ _ = K3
      have e3 : Ext [] K2 K3 := by rw [← hK3]; exact box_new.1
      exact bad (by rw [hOK]; simp; omega) K3 (e1.trans (e2.trans e3))
    · try simp only [ew, Nat.reduceAdd, Nat.reduceMul, Nat.reduceLeDiff, Int.reduceBNe, Int.reduceBEq, Int.reduceLT, Int.reduceLE, st_rtt hsz]
      generalize hK3 : setB (newB K2 _ _) _ _ = K3
      have e3 : Ext [] K2 K3 := by rw [← hK3]; exact box_new.1
      have q3 : own K3 K2.size = some (rttC ⟨0, 0, r.smooth, r.smooth / 2, -1⟩) := by rw [← hK3]; exact box_new.2.1
      have q1' := (e2.trans e3).own q1 (by simp)
      have E := e1.trans (e2.trans e3)
      try simp only [ew, Nat.reduceAdd, Nat.reduceMul, Nat.reduceLeDiff, Int.reduceBNe, Int.reduceBEq, Int.reduceLT, Int.reduceLE, ldE_t, rdA_u, own_blk q1', own_blk q3, rttC_g, rtt_bne]
      have hiff : (⟨0, 0, r.smooth, r.smooth / 2, -1⟩ : Rtt) = r ↔ rttOK r = true := by
        rw [hOK]; cases r; simp at hf hg ⊢; omega
      by_cases hc : (⟨0, 0, r.smooth, r.smooth / 2, -1⟩ : Rtt) = r
      · simp only [decide_eq_true hc]
        try simp only [ew, Nat.reduceAdd, Nat.reduceMul, Nat.reduceLeDiff, Int.reduceBNe, Int.reduceBEq, Int.reduceLT, Int.reduceLE]
        exact good (hiff.1 hc) K3 E
      · simp only [decide_eq_false hc]
        try simp only [ew, Nat.reduceAdd, Nat.reduceMul, Nat.reduceLeDiff, Int.reduceBNe, Int.reduceBEq, Int.reduceLT, Int.reduceLE]
        exact bad (fun h => hc (hiff.2 h)) K3 E
  · simp only [z95_g31, z95_g32, z95_g33]
    try simp only [ew, Nat.reduceAdd, Nat.reduceMul, Nat.reduceLeDiff, Int.reduceBNe, Int.reduceBEq, Int.reduceLT, Int.reduceLE, ldE_f, own_blk q1, rttC_0, rttC_1, rttC_2, rttC_3, rttC_4]
    have hOK : rttOK r = (isT r.first && isT r.latest && isT r.least && isT r.smooth && isT r.var && decide (r.least ≤ min r.latest r.smooth)) := if_neg hf
    refine bslE_l (E := intE) (vs := [_, _, _, _, _]) (l := [r.first, r.latest, r.least, r.smooth, r.var]) rfl rfl (fun i hi => ?_) (by decide) (by decide) fun K2 _ e2 o2 => ?_
    · match i, hi with
      | 0, _ => rfl
      | 1, _ => rfl
      | 2, _ => rfl
      | 3, _ => rfl
      | 4, _ => rfl
    refine rtime_ev o2.showA ?_
    have E := e1.trans e2
    have q2 := e2.own q1 (by simp)
    obtain ⟨b, hb⟩ : ∃ b, b = [r.first, r.latest, r.least, r.smooth, r.var].all isT := ⟨_, rfl⟩
    have hOK' : rttOK r = (b && decide (r.least ≤ min r.latest r.smooth)) := by rw [hOK, hb]; simp [List.all_cons, Bool.and_assoc]
    rw [← hb]
    try simp only [ew, Nat.reduceAdd, Nat.reduceMul, Nat.reduceLeDiff, Int.reduceBNe, Int.reduceBEq, Int.reduceLT, Int.reduceLE]
    refine brV_i (fun h => ?_) (fun h => ?_)
    · exact bad (by rw [hOK']; simp at h; simp [h]) K2 E
    · try simp only [ew, Nat.reduceAdd, Nat.reduceMul, Nat.reduceLeDiff, Int.reduceBNe, Int.reduceBEq, Int.reduceLT, Int.reduceLE, ldE_f, own_blk q2, rttC_0, rttC_1, rttC_2, min_iv]
      have hbt : b = true := by simpa using h
      refine brV_d (fun h => ?_) (fun h => ?_)
      · exact bad (by rw [hOK']; simp [hbt]; omega) K2 E
      · exact good (by rw [hOK']; simp [hbt]; omega) K2 E
end Go.Hc
set_option linter.unusedSimpArgs false
set_option linter.unusedVariables false
namespace Go.Hc
open Go

structure AckR where
  delay : Int
  rs : List Rng
  mkd : Bool
  e0 : Int
  e1 : Int
  e2 : Int
def ackC (v : Value) (a : AckR) : Array Value := #[iv a.delay, v, .bool a.mkd, iv a.e0, iv a.e1, iv a.e2]
section
variable {v : Value} {a : AckR}
theorem ackC_0 : (ackC v a)[0]? = some (iv a.delay) := rfl
theorem ackC_1 : (ackC v a)[1]? = some v := rfl
theorem ackC_2 : (ackC v a)[2]? = some (.bool a.mkd) := rfl
theorem ackC_g : getC (ackC v a) 0 6 = some (ackC v a) := rfl
theorem ackC_e : getC (ackC v a) 3 3 = some #[iv a.e0, iv a.e1, iv a.e2] := rfl
end
def okG (r : Rng) : Bool := decide (okN r.1) && (decide (okN r.2) && decide (r.1 ≤ r.2))
def gapAt (rs : List Rng) (k : Nat) : Int := if k = 0 then 0 else (rs.getD (k - 1) (0, 0)).1 - (rs.getD k (0, 0)).2 - 2
def gapsOK (rs : List Rng) : Bool := (List.range rs.length).all fun k => decide (0 ≤ gapAt rs k)
def ecnAt (a : AckR) (k : Nat) : Int := if k = 0 then a.e0 else if k = 1 then a.e1 else a.e2
def ecnOK (mk : Bool) (n : Int) : Bool := decide (okN n) && (decide (n ≤ 0) || mk)
def okA (a : AckR) : Bool := decide (1 ≤ a.rs.length ∧ a.rs.length ≤ 256 ∧ okN a.delay) && (a.rs.all okG && (gapsOK a.rs && (List.range 3).all fun k => ecnOK a.mkd (ecnAt a k)))
def chkA (a : AckR) : Int := if okA a = true then 0 else 2
theorem okG_iff {r : Rng} : okG r = true ↔ 0 ≤ r.1 ∧ r.1 ≤ r.2 ∧ r.2 ≤ 9007199254740991 := by
  rw [show okG r = true ↔ okN r.1 ∧ okN r.2 ∧ r.1 ≤ r.2 by simp [okG]]; unfold okN; omega
theorem isNum_ev {H : Heap} {n : Int} {R : Value → Heap → Prop} (hR : R (.bool (decide (okN n))) H) : EvF P N.frame_isNumber #[iv n] H R := by
  refine z100_ev _ _ _ ?_
  simp only [z100_g5, z100_g6, frame_isNumber]
  try simp only [ew, Nat.reduceAdd, Nat.reduceMul, Nat.reduceLeDiff, Int.reduceBNe, Int.reduceBEq, Int.reduceLT, Int.reduceLE]
  refine brV_d (fun h => ?_) (fun h => ?_)
  · simpa [okN, h] using hR
  · simpa [okN, h] using hR
theorem st_rng {t : TypeId} {K : Heap} {p q : Rng} : stE 2 (.pointer (some ⟨K.size, 0, none⟩)) (.agg (rngC p)) (newB K t (rngC q)) = some (setB (newB K t (rngC q)) K.size (rngC p)) := by
  rw [stE_p, show (Value.agg (rngC p)).cells = rngC p from rfl, if_pos rngC_s, wrA_b, own_newB_self]
  simp [rngC, isCell, splice]
theorem ix_ecn {a : AckR} {k : Nat} (hk : k < 3) : indexV false 1 3 (.agg #[iv a.e0, iv a.e1, iv a.e2]) (iv k) = some (iv (ecnAt a k)) := by
  match k, hk with
  | 0, _ => rfl
  | 1, _ => rfl
  | 2, _ => rfl
theorem callL_i {f : FuncId} {y c : Value} {H : Heap} {Q : Value → Heap → Prop} (h : EvL P f #[y, c] H Q) : callL P (.func (.func f) #[] #[c]) [y] H Q := h
theorem gaps_s30 {y x1 x7 x8 : Value} {b k : Nat} {K1 : Value → Value → Value → Value → Value → Heap → Prop} {R : Value → Heap → Prop} {K : Heap} {r : Rng} {g : Int} (hk : (k : Int) < 9223372036854775807) (q : own K b = some (rngC r))
    (h : callV P y [iv g, .agg (rngC r)] K fun v H' => (v = .bool true ∧ K1 y x1 x7 x8 (iv ((k + 1 : Nat) : Int)) H') ∨ (v = .bool false ∧ R (.tuple #[]) H')) :
    z149_s30 y x1 (ptr b) (iv g) x7 x8 (iv k) K1 R K := by
  have w4 : IntKind.i64.wrap ((k : Int) + 1) = ((k + 1 : Nat) : Int) := by rw [wrap_in (by omega)]; omega
  simp only [z149_s30, z149_g31, z149_g32]
  try simp only [ew, Nat.reduceAdd, Nat.reduceMul, Nat.reduceLeDiff, Int.reduceBNe, Int.reduceBEq, Int.reduceLT, Int.reduceLE, ldE_t, rdA_u, own_blk q, rngC_g]
  refine callV_mono (fun x K' hx => ?_) h
  rcases hx with ⟨rfl, hI'⟩ | ⟨rfl, hS⟩
  · try simp only [ew, Nat.reduceAdd, Nat.reduceMul, Nat.reduceLeDiff, Int.reduceBNe, Int.reduceBEq, Int.reduceLT, Int.reduceLE, bin_add, w4]
    exact hI'
  · try simp only [ew, Nat.reduceAdd, Nat.reduceMul, Nat.reduceLeDiff, Int.reduceBNe, Int.reduceBEq, Int.reduceLT, Int.reduceLE]
    exact hS
/-- what is between the ranges: handed one by one, until it is enough -/
theorem gaps_y {H0 H1 : Heap} {b : Nat} {v y : Value} {a : AckR} (hb : own H0 b = some (ackC v a)) (hv : ShowA rngE H0 v a.rs) (hg : a.rs.all okG = true) (I : Nat → Heap → Prop) (S : Heap → Prop) (h0 : I 0 H1)
    (hx : ∀ k H, I k H → Ext [] H0 H) (hst : ∀ k H H', I k H → Ext [] H H' → I k H')
    (step : ∀ k (hk : k < a.rs.length) H, I k H → callV P y [iv (gapAt a.rs k), .agg (rngC a.rs[k])] H fun v H' => (v = .bool true ∧ I (k + 1) H') ∨ (v = .bool false ∧ S H')) :
    callL P (.func (.func N.frame_gaps_1) #[] #[ptr b]) [y] H1 fun _ H' => I a.rs.length H' ∨ S H' := by
  refine callL_i (z149_ev0 _ _ _ _ ?_)
  have hsm := hv.small
  have hb1 := (hx 0 H1 h0).own hb (by simp)
  simp only [frame_gaps_1, z149_g25, z149_l40]
  try simp only [ew, Nat.reduceAdd, Nat.reduceMul, Nat.reduceLeDiff, Int.reduceBNe, Int.reduceBEq, Int.reduceLT, Int.reduceLE, ldE_f, own_blk hb1, ackC_1, hv.len]
  refine ⟨fun x K => ∃ k : Nat, k ≤ a.rs.length ∧ x = iv k ∧ I k K, fun x _ => (match x with | .int _ k => (a.rs.length - k).toNat | _ => 0), ⟨0, by omega, rfl, h0⟩, ?_⟩
  rintro x K ⟨k, hk, rfl, hI⟩
  have eK := hx k K hI
  have hvK := hv.ext eK
  simp only [z149_s26, z149_g27]
  try simp only [ew, Nat.reduceAdd, Nat.reduceMul, Nat.reduceLeDiff, Int.reduceBNe, Int.reduceBEq, Int.reduceLT, Int.reduceLE]
  refine brV_d (fun hlt => ?_) (fun hge => ?_)
  · have hk' : k < a.rs.length := by omega
    have hG : ∀ i (h : i < a.rs.length), 0 ≤ a.rs[i].1 ∧ a.rs[i].1 ≤ a.rs[i].2 ∧ a.rs[i].2 ≤ 9007199254740991 := fun i h => okG_iff.1 (List.all_eq_true.1 hg _ (List.getElem_mem h))
    have g0 := hG k hk'
    obtain ⟨b', o, c, i1, _, _, i4⟩ := hvK.ix (by decide) hk' (rfl : (k : Int) = k)
    have i1' : ixSV 2 v (iv k) = _ := i1
    have i4' : ldE true 2 _ K = some (.agg (rngC a.rs[k])) := i4
    simp only [z149_g28, z149_g29, z149_g38]
    try simp only [ew, Nat.reduceAdd, Nat.reduceMul, Nat.reduceLeDiff, Int.reduceBNe, Int.reduceBEq, Int.reduceLT, Int.reduceLE, i1', i4', rng0, st_rng]
    generalize hK1 : setB (newB K _ _) _ _ = K1
    have e1 : Ext [] K K1 := by rw [← hK1]; exact box_new.1
    have q1 : own K1 K.size = some (rngC a.rs[k]) := by rw [← hK1]; exact box_new.2.1
    have qb := e1.own (eK.own hb (by simp)) (by simp)
    have w4 : IntKind.i64.wrap ((k : Int) + 1) = ((k + 1 : Nat) : Int) := by rw [wrap_in (by omega)]; omega
    have fin := callV_mono (k' := fun u H' => (u = .bool true ∧ (y = y ∧ ptr b = ptr b ∧ v = v ∧ iv a.rs.length = iv a.rs.length ∧ (∃ j : Nat, j ≤ a.rs.length ∧ iv ((k + 1 : Nat) : Int) = iv j ∧ I j H') ∧ (a.rs.length - ((k + 1 : Nat) : Int)).toNat < (a.rs.length - (k : Int)).toNat)) ∨ (u = .bool false ∧ (I a.rs.length H' ∨ S H')))
      (fun x K' hx => by
        rcases hx with ⟨rfl, hI'⟩ | ⟨rfl, hS⟩
        · exact .inl ⟨rfl, rfl, rfl, rfl, rfl, ⟨k + 1, by omega, rfl, hI'⟩, by omega⟩
        · exact .inr ⟨rfl, .inr hS⟩) (step k hk' K1 (hst k K K1 hI e1))
    refine brV_d (fun hp => ?_) (fun hp => ?_)
    · have hk1 : k - 1 < a.rs.length := by omega
      have g1 := hG (k - 1) hk1
      obtain ⟨b2, o2, c2, j1, j2, j3, _⟩ := (hvK.ext e1).ix (by decide) hk1 (show (k : Int) - 1 = (k - 1 : Nat) by omega)
      have j1' : ixSV 2 v (iv ((k : Int) - 1)) = _ := j1
      have j3' : c2[o2]? = some (iv a.rs[k - 1].1) := j3 0 (by decide)
      have w1 : IntKind.i64.wrap ((k : Int) - 1) = (k : Int) - 1 := wrap_in (by omega)
      have w2 : IntKind.i64.wrap (a.rs[k - 1].1 - a.rs[k].2) = a.rs[k - 1].1 - a.rs[k].2 := wrap_in (by omega)
      have w3 : IntKind.i64.wrap (a.rs[k - 1].1 - a.rs[k].2 - 2) = gapAt a.rs k := by
        rw [wrap_in (by omega)]; unfold gapAt; rw [if_neg (by omega), getD_at hk1, getD_at hk']
      simp only [z149_g39]
      try simp only [ew, Nat.reduceAdd, Nat.reduceMul, Nat.reduceLeDiff, Int.reduceBNe, Int.reduceBEq, Int.reduceLT, Int.reduceLE, ldE_f, own_blk qb, ackC_1, bin_sub, w1, j1', j2, j3', own_blk q1, rngC_1, w2, w3]
      exact gaps_s30 (by omega) q1 fin
    · have : (Value.int .i64 0) = iv (gapAt a.rs k) := by unfold gapAt; rw [if_pos (show k = 0 by omega)]
      rw [this]
      exact gaps_s30 (by omega) q1 fin
  · have : k = a.rs.length := by omega
    subst this
    exact .inl hI
end Go.Hc
set_option linter.unusedSimpArgs false
set_option linter.unusedVariables false
namespace Go.Hc
open Go

/-- a function of ranges that changes nothing is asked of each -/
theorem anyR_ev {H : Heap} {v f : Value} {l : List Rng} {g : Rng → Bool} {R : Value → Heap → Prop} (hv : ShowA rngE H v l)
    (hf : ∀ r ∈ l, ∀ K, Ext [] H K → ∀ Q : Value → Heap → Prop, (∀ K', Ext [] K K' → Q (.bool (g r)) K') → callV P f [.agg (rngC r)] K Q)
    (hR : ∀ H', Ext [] H H' → R (.bool (l.any g)) H') : EvF P N.slices_ContainsFunc_Range #[v, f] H R := by
  refine ContainsR_ev (fun k K => Ext [] H K ∧ ∀ j (h : j < l.length), j < k → g l[j] = false) ⟨Ext.refl _ _, fun j _ h => absurd h (by omega)⟩ (fun k K h => hv.ext h.1) (fun k hk K hI => ?_) (fun K hI => ?_)
  · refine hf _ (List.getElem_mem hk) K hI.1 _ fun K' e' => ⟨_, rfl, fun hb => ⟨hI.1.trans e', fun j hj hjk => ?_⟩, fun hb => ?_⟩
    · rcases Nat.lt_or_ge j k with h | h
      · exact hI.2 j hj h
      · have : j = k := by omega
        subst this; exact hb
    · have : l.any g = true := List.any_eq_true.2 ⟨_, List.getElem_mem hk, hb⟩
      rw [← this]; exact hR K' (hI.1.trans e')
  · have : l.any g = false := by
      rw [List.any_eq_false]; intro x hx
      obtain ⟨j, hj, rfl⟩ := List.getElem_of_mem hx
      rw [hI.2 j hj hj]; simp
    rw [← this]; exact hR K hI.1
theorem okA_len {a : AckR} (h : ¬ (1 ≤ a.rs.length ∧ a.rs.length ≤ 256 ∧ okN a.delay)) : okA a = false := by unfold okA; rw [decide_eq_false h]; rfl
theorem okA_rng {a : AckR} {k : Nat} (hk : k < a.rs.length) (h : okG a.rs[k] = false) : okA a = false := by
  have : a.rs.all okG = false := by rw [List.all_eq_false]; exact ⟨_, List.getElem_mem hk, by simp [h]⟩
  unfold okA; rw [this]; simp
theorem okA_gap {a : AckR} {k : Nat} (hk : k < a.rs.length) (h : gapAt a.rs k < 0) : okA a = false := by
  have : gapsOK a.rs = false := by unfold gapsOK; rw [List.all_eq_false]; exact ⟨k, by simpa using hk, by simp; omega⟩
  unfold okA; rw [this]; simp
theorem okA_ecn {a : AckR} {k : Nat} (hk : k < 3) (h : ecnOK a.mkd (ecnAt a k) = false) : okA a = false := by
  have : ((List.range 3).all fun k => ecnOK a.mkd (ecnAt a k)) = false := by rw [List.all_eq_false]; exact ⟨k, by simpa using hk, by simp [h]⟩
  unfold okA; rw [this]; simp
theorem okA_of {a : AckR} (h1 : 1 ≤ a.rs.length ∧ a.rs.length ≤ 256 ∧ okN a.delay) (h2 : ∀ k (h : k < a.rs.length), okG a.rs[k] = true) (h3 : ∀ k < a.rs.length, 0 ≤ gapAt a.rs k) (h4 : ∀ k < 3, ecnOK a.mkd (ecnAt a k) = true) : okA a = true := by
  have a2 : a.rs.all okG = true := List.all_eq_true.2 fun x hx => by obtain ⟨j, hj, rfl⟩ := List.getElem_of_mem hx; exact h2 j hj
  have a3 : gapsOK a.rs = true := List.all_eq_true.2 fun k hk => by simpa using h3 k (by simpa using hk)
  have a4 : ((List.range 3).all fun k => ecnOK a.mkd (ecnAt a k)) = true := List.all_eq_true.2 fun k hk => h4 k (by simpa using hk)
  unfold okA; rw [decide_eq_true h1, a2, a3, a4]; rfl

set_option maxHeartbeats 1000000 in
theorem frameCheck_ev {H : Heap} {v : Value} {a : AckR} {R : Value → Heap → Prop} (hv : ShowA rngE H v a.rs) (hR : ∀ H', Ext [] H H' → R (iv (chkA a)) H') : EvF P N.frame_Check #[.agg (ackC v a)] H R := by
  refine z57_ev _ _ _ ?_
  have bad : okA a = false → ∀ H', Ext [] H H' → R (iv 2) H' := fun h H' e => by have := hR H' e; unfold chkA at this; rw [h] at this; exact this
  have good : okA a = true → ∀ H', Ext [] H H' → R (iv 0) H' := fun h H' e => by have := hR H' e; unfold chkA at this; rw [h] at this; exact this
  have hsm := hv.small
  simp only [frame_Check, z57_g63]
  try simp only [ew, Nat.reduceAdd, Nat.reduceMul, Nat.reduceLeDiff, Int.reduceBNe, Int.reduceBEq, Int.reduceLT, Int.reduceLE]
  generalize hK0 : newB (newB H _ _) _ _ = K0
  have e0 : Ext [] H K0 := by rw [← hK0]; exact ((Ext.refl _ _).newB _ _).newB _ _
  have hz0 : K0.size = H.size + 1 + 1 := by rw [← hK0, size_newB, size_newB]
  have q1 : own K0 H.size = some (ackC v a) := by rw [← hK0, own_newB_ne (by rw [size_newB]; omega), own_newB_self]
  have q2 : own K0 (H.size + 1) = some #[.int .i64 0] := by rw [← hK0, show H.size + 1 = (newB H _ (ackC v a)).size from (size_newB _ _ _).symm, own_newB_self]
  have hv0 := hv.ext e0
  -- an answer: what it comes to
  have wr : ∀ {K : Heap} (n m : Int), own K (H.size + 1) = some #[iv n] → stE 1 (ptr (H.size + 1)) (iv m) K = some (setB K (H.size + 1) #[iv m]) := fun n m h => st_ptr h (by simp) rfl rfl
  have rd : ∀ {K : Heap} (n : Int), own K (H.size + 1) = some #[iv n] → ldE false 1 (ptr (H.size + 1)) K = some (iv n) := fun n h => ld_ptr (own_blk h) rfl
  have fail : okA a = false → ∀ K, Ext [] K0 K → bnd (stE 1 (ptr (H.size + 1)) (.int .i64 2) K) fun H1 => bnd (ldE false 1 (ptr (H.size + 1)) H1) fun r0 => R r0 H1 := fun h K e => by
    have q := e.own q2 (by simp)
    rw [wr 0 2 q, bnd_some, rd 2 (own_setB_same q), bnd_some]
    exact bad h _ ((e0.trans e).setB _ _ (Or.inr (by omega)))
  simp only [z57_g64]
  try simp only [ew, Nat.reduceAdd, Nat.reduceMul, Nat.reduceLeDiff, Int.reduceBNe, Int.reduceBEq, Int.reduceLT, Int.reduceLE, ldE_f, own_blk q1, ackC_0, ackC_1, hv.len]
  refine brV_d (fun h1 => ?_) (fun h1 => ?_)
  · try simp only [ew, Nat.reduceAdd, Nat.reduceMul, Nat.reduceLeDiff, Int.reduceBNe, Int.reduceBEq, Int.reduceLT, Int.reduceLE, z57_g65]
    exact fail (okA_len (by omega)) K0 (Ext.refl _ _)
  · refine brV_d (fun h2 => ?_) (fun h2 => ?_)
    · try simp only [ew, Nat.reduceAdd, Nat.reduceMul, Nat.reduceLeDiff, Int.reduceBNe, Int.reduceBEq, Int.reduceLT, Int.reduceLE, z57_g65]
      exact fail (okA_len (by omega)) K0 (Ext.refl _ _)
    · refine isNum_ev ?_
      try simp only [ew, Nat.reduceAdd, Nat.reduceMul, Nat.reduceLeDiff, Int.reduceBNe, Int.reduceBEq, Int.reduceLT, Int.reduceLE]
      refine brV_i (fun h3 => ?_) (fun h3 => ?_)
      · simp only [z57_g65]
        exact fail (okA_len (by have : ¬ okN a.delay := by simpa using h3
                                exact fun h => this h.2.2)) K0 (Ext.refl _ _)
      · have h3' : okN a.delay := by simpa using h3
        have hlen : 1 ≤ a.rs.length ∧ a.rs.length ≤ 256 ∧ okN a.delay := ⟨by omega, by omega, h3'⟩
        simp only [z57_g66]
        try simp only [ew, Nat.reduceAdd, Nat.reduceMul, Nat.reduceLeDiff, Int.reduceBNe, Int.reduceBEq, Int.reduceLT, Int.reduceLE, ldE_f, own_blk q1, ackC_1, hv.len]
        simp only [z57_l96]
        refine ⟨fun x K => ∃ k : Nat, k ≤ a.rs.length ∧ x = iv k ∧ Ext [] K0 K ∧ ∀ j (h : j < a.rs.length), j < k → okG a.rs[j] = true, fun x _ => (match x with | .int _ k => (a.rs.length - k).toNat | _ => 0),
          ⟨0, by omega, rfl, Ext.refl _ _, fun j _ h => absurd h (by omega)⟩, ?_⟩
        rintro x K ⟨k, hk, rfl, eK, hall⟩
        simp only [z57_s67, z57_g68]
        try simp only [ew, Nat.reduceAdd, Nat.reduceMul, Nat.reduceLeDiff, Int.reduceBNe, Int.reduceBEq, Int.reduceLT, Int.reduceLE]
        have hvK := hv0.ext eK
        refine brV_d (fun hlt => ?_) (fun hge => ?_)
        · have hk' : k < a.rs.length := by omega
          obtain ⟨b', o, c, i1, _, _, i4⟩ := hvK.ix (by decide) hk' (rfl : (k : Int) = k)
          have i1' : ixSV 2 v (iv k) = _ := i1
          have i4' : ldE true 2 _ K = some (.agg (rngC a.rs[k])) := i4
          simp only [z57_g69]
          try simp only [ew, Nat.reduceAdd, Nat.reduceMul, Nat.reduceLeDiff, Int.reduceBNe, Int.reduceBEq, Int.reduceLT, Int.reduceLE, i1', i4', rng0, st_rng]
          generalize hK1 : setB (newB K _ _) _ _ = K1
          have e1 : Ext [] K K1 := by rw [← hK1]; exact box_new.1
          have q3 : own K1 K.size = some (rngC a.rs[k]) := by rw [← hK1]; exact box_new.2.1
          simp only [z57_g70]
          try simp only [ew, Nat.reduceAdd, Nat.reduceMul, Nat.reduceLeDiff, Int.reduceBNe, Int.reduceBEq, Int.reduceLT, Int.reduceLE, ldE_f, own_blk q3, rngC_0, rngC_1]
          refine isNum_ev ?_
          try simp only [ew, Nat.reduceAdd, Nat.reduceMul, Nat.reduceLeDiff, Int.reduceBNe, Int.reduceBEq, Int.reduceLT, Int.reduceLE]
          refine brV_i (fun g1 => ?_) (fun g1 => ?_)
          · simp only [z57_g71]
            exact fail (okA_rng hk' (by unfold okG; simp at g1; simp [g1])) K1 (eK.trans e1)
          · try simp only [ew, Nat.reduceAdd, Nat.reduceMul, Nat.reduceLeDiff, Int.reduceBNe, Int.reduceBEq, Int.reduceLT, Int.reduceLE, ldE_f, own_blk q3, rngC_0, rngC_1]
            refine isNum_ev ?_
            try simp only [ew, Nat.reduceAdd, Nat.reduceMul, Nat.reduceLeDiff, Int.reduceBNe, Int.reduceBEq, Int.reduceLT, Int.reduceLE]
            refine brV_i (fun g2 => ?_) (fun g2 => ?_)
            · simp only [z57_g71]
              exact fail (okA_rng hk' (by unfold okG; simp at g2; simp [g2])) K1 (eK.trans e1)
            · try simp only [ew, Nat.reduceAdd, Nat.reduceMul, Nat.reduceLeDiff, Int.reduceBNe, Int.reduceBEq, Int.reduceLT, Int.reduceLE, ldE_f, own_blk q3, rngC_0, rngC_1]
              refine brV_d (fun g3 => ?_) (fun g3 => ?_)
              · simp only [z57_g71]
                exact fail (okA_rng hk' (by unfold okG; simp; intro _ _; omega)) K1 (eK.trans e1)
              · have w4 : IntKind.i64.wrap ((k : Int) + 1) = ((k + 1 : Nat) : Int) := by rw [wrap_in (by omega)]; omega
                have hok : okG a.rs[k] = true := by
                  unfold okG; simp at g1 g2; simp [g1, g2]; omega
                simp only [z57_g72]
                try simp only [ew, Nat.reduceAdd, Nat.reduceMul, Nat.reduceLeDiff, Int.reduceBNe, Int.reduceBEq, Int.reduceLT, Int.reduceLE, bin_add, w4]
                refine ⟨⟨k + 1, by omega, rfl, eK.trans e1, fun j hj hjk => ?_⟩, by show _ < _; omega⟩
                rcases Nat.lt_or_ge j k with h | h
                · exact hall j hj h
                · have : j = k := by omega
                  subst this; exact hok
        · have hk' : k = a.rs.length := by omega
          subst hk'
          have hall' : ∀ j (h : j < a.rs.length), okG a.rs[j] = true := fun j h => hall j h h
          have hallB : a.rs.all okG = true := List.all_eq_true.2 fun x hx => by obtain ⟨j, hj, rfl⟩ := List.getElem_of_mem hx; exact hall' j hj
          have q1K := eK.own q1 (by simp)
          have q2K := eK.own q2 (by simp)
          have hzK := eK.size
          simp only [z57_g73]
          try simp only [ew, Nat.reduceAdd, Nat.reduceMul, Nat.reduceLeDiff, Int.reduceBNe, Int.reduceBEq, Int.reduceLT, Int.reduceLE, ldE_t, rdA_u, own_blk q1K, ackC_g]
          refine z101_ev _ _ _ ?_
          simp only [z101_g5, z101_g6, frame_gaps]
          try simp only [ew, Nat.reduceAdd, Nat.reduceMul, Nat.reduceLeDiff, Int.reduceBNe, Int.reduceBEq, Int.reduceLT, Int.reduceLE]
          intro fn fr hfr hx2
          generalize hK3 : newB K _ _ = K3
          have e3 : Ext [] K K3 := by rw [← hK3]; exact (Ext.refl _ _).newB _ _
          have q3 : own K3 K.size = some (ackC v a) := by rw [← hK3]; exact own_newB_self
          have hz3 : K3.size = K.size + 1 := by rw [← hK3, size_newB]
          have q13 := e3.own q1K (by simp)
          have q23 := e3.own q2K (by simp)
          have E3 : Ext [] H K3 := e0.trans (eK.trans e3)
          refine callL_mono (fun _ H2 hh => ?_) (gaps_y q3 (hvK.ext e3) hallB
            (fun k M => Ext [] K3 M ∧ M.arr[K.size + 1 + 1]? = some (.loop (z57_L fn fr (K.size + 1))) ∧ M.arr[K.size + 1]? = some (.deferred (some [])) ∧ ∀ j, j < k → j < a.rs.length → 0 ≤ gapAt a.rs j)
            (fun M => Ext [H.size + 1] K3 M ∧ M.arr[K.size + 1 + 1]? = some (.loop (gone (z57_L fn fr (K.size + 1)))) ∧ M.arr[K.size + 1]? = some (.deferred (some [])) ∧ own M (H.size + 1) = some #[iv 2] ∧ okA a = false) ?_ (fun k M h => h.1) (fun k M M' h e => ⟨h.1.trans e, e.arr h.2.1 (by simp), e.arr h.2.2.1 (by simp), h.2.2.2⟩) (fun k hk M hM => ?_))
          · rcases hh with ⟨he, h1, h2, h3⟩ | ⟨he, h1, h2, h3, h4⟩
            · refine .inl ⟨h1, ?_⟩
              have hgap : ∀ j < a.rs.length, 0 ≤ gapAt a.rs j := fun j hj => h3 j hj hj
              have hz2 := he.size
              generalize hM0 : setO H2 (K.size + 1 + 1) (.loop (done (z57_L fn fr (K.size + 1)))) = M0
              have eM0 : Ext [] K3 M0 := by rw [← hM0]; exact he.setO _ _ (Or.inr (by omega))
              have hmk : M0.arr[K.size + 1]? = some (.deferred (some [])) := by rw [← hM0, arr_setO_ne (by omega)]; exact h2
              have r1 := eM0.own q13 (by simp)
              have r2 := eM0.own q23 (by simp)
              simp only [z57_g79]
              try simp only [ew, Nat.reduceAdd, Nat.reduceMul, Nat.reduceLeDiff, Int.reduceBNe, Int.reduceBEq, Int.reduceLT, Int.reduceLE, ldE_t, rdA_u, own_blk r1, ackC_e]
              simp only [z57_l91]
              refine ⟨fun x M => ∃ k : Nat, k ≤ 3 ∧ x = iv k ∧ Ext [] M0 M ∧ ∀ j < k, ecnOK a.mkd (ecnAt a j) = true, fun x _ => (match x with | .int _ k => (3 - k).toNat | _ => 0), ⟨0, by omega, rfl, Ext.refl _ _, by omega⟩, ?_⟩
              rintro x M ⟨k, hk3, rfl, eM, hecn⟩
              have s1 := eM.own r1 (by simp)
              have s2 := eM.own r2 (by simp)
              have smk := eM.arr hmk (by simp)
              have EM : Ext [] H M := E3.trans (eM0.trans eM)
              -- an answer, behind the mark
              have last : ∀ n : Int, (∀ H', Ext [] H H' → R (iv n) H') → bnd (stE 1 (ptr (H.size + 1)) (iv n) M) fun H1 => H1.arr[K.size + 1]? = some (.deferred (some [])) ∧ bnd (ldE false 1 (ptr (H.size + 1)) (setO H1 (K.size + 1) (.deferred none))) fun r0 => R r0 (setO H1 (K.size + 1) (.deferred none)) := fun n hn => by
                rw [wr 0 n s2, bnd_some]
                refine ⟨((Ext.refl [H.size + 1] M).setB _ _ (Or.inl (by simp))).arr smk (by simp; omega), ?_⟩
                rw [rd n (by rw [own_setO_ne (by omega)]; exact own_setB_same s2), bnd_some]
                exact hn _ ((EM.setB _ _ (Or.inr (by omega))).setO _ _ (Or.inr (by omega)))
              simp only [z57_s80, z57_g81]
              try simp only [ew, Nat.reduceAdd, Nat.reduceMul, Nat.reduceLeDiff, Int.reduceBNe, Int.reduceBEq, Int.reduceLT, Int.reduceLE]
              refine brV_d (fun hlt => ?_) (fun hge => ?_)
              · have hk : k < 3 := by omega
                have w4 : IntKind.i64.wrap ((k : Int) + 1) = ((k + 1 : Nat) : Int) := by rw [wrap_in (by omega)]; omega
                have nx : ecnOK a.mkd (ecnAt a k) = true → ∀ j < k + 1, ecnOK a.mkd (ecnAt a j) = true := fun h j hj => by
                  rcases Nat.lt_or_ge j k with h' | h'
                  · exact hecn j h'
                  · have : j = k := by omega
                    subst this; exact h
                simp only [z57_g82]
                try simp only [ew, Nat.reduceAdd, Nat.reduceMul, Nat.reduceLeDiff, Int.reduceBNe, Int.reduceBEq, Int.reduceLT, Int.reduceLE, ix_ecn hk]
                simp only [z57_g83]
                refine isNum_ev ?_
                try simp only [ew, Nat.reduceAdd, Nat.reduceMul, Nat.reduceLeDiff, Int.reduceBNe, Int.reduceBEq, Int.reduceLT, Int.reduceLE]
                refine brV_i (fun g1 => ?_) (fun g1 => ?_)
                · simp only [z57_g84]
                  exact last 2 (bad (okA_ecn hk (by unfold ecnOK; simp at g1; simp [g1])))
                · try simp only [ew, Nat.reduceAdd, Nat.reduceMul, Nat.reduceLeDiff, Int.reduceBNe, Int.reduceBEq, Int.reduceLT, Int.reduceLE]
                  refine brG_d (fun g2 => ?_) (fun g2 => ?_)
                  · try simp only [ew, Nat.reduceAdd, Nat.reduceMul, Nat.reduceLeDiff, Int.reduceBNe, Int.reduceBEq, Int.reduceLT, Int.reduceLE, ldE_f, own_blk s1, ackC_2]
                    refine brV_i (fun g3 => ?_) (fun g3 => ?_)
                    · simp only [z57_g84]
                      exact last 2 (bad (okA_ecn hk (by unfold ecnOK; simp at g3; simp [g3]; omega)))
                    · simp only [z57_g85]
                      try simp only [ew, Nat.reduceAdd, Nat.reduceMul, Nat.reduceLeDiff, Int.reduceBNe, Int.reduceBEq, Int.reduceLT, Int.reduceLE, bin_add, w4]
                      exact ⟨⟨k + 1, by omega, rfl, eM, nx (by unfold ecnOK; simp at g1 g3; simp [g1, g3])⟩, by show _ < _; omega⟩
                  · try simp only [ew, Nat.reduceAdd, Nat.reduceMul, Nat.reduceLeDiff, Int.reduceBNe, Int.reduceBEq, Int.reduceLT, Int.reduceLE]
                    simp only [z57_g85]
                    try simp only [ew, Nat.reduceAdd, Nat.reduceMul, Nat.reduceLeDiff, Int.reduceBNe, Int.reduceBEq, Int.reduceLT, Int.reduceLE, bin_add, w4]
                    exact ⟨⟨k + 1, by omega, rfl, eM, nx (by unfold ecnOK; simp at g1; simp [g1]; omega)⟩, by show _ < _; omega⟩
              · have hk : k = 3 := by omega
                subst hk
                simp only [z57_g86]
                exact last 0 (good (okA_of hlen hall' hgap hecn))
            · refine .inr ⟨h1, ?_⟩
              have hz2 := he.size
              refine ⟨by rw [arr_setO_ne (by omega)]; exact h2, ?_⟩
              rw [rd 2 (by rw [own_setO_ne (by omega), own_setO_ne (by omega)]; exact h3), bnd_some]
              exact bad h4 _ (((E3.thru he (by simp)).setO _ _ (Or.inr (by omega))).setO _ _ (Or.inr (by omega)))
          · exact ⟨((Ext.refl _ _).pushO _).pushO _, arr_pushO_at (by rw [size_pushO, hz3]), ((Ext.refl [] _).pushO _).arr (arr_pushO_at hz3.symm) (by simp), fun j h => absurd h (by omega)⟩
          · obtain ⟨he, h1, h2, h3⟩ := hM
            refine callV_y (z57_y fn _ fr hfr _ _ _ M _ h1 ?_)
            rw [hx2]
            have hz2 := he.size
            have hlp := arr_lt h1
            have t2 := he.own q23 (by simp)
            simp only [z57_r, z57_g78, z57_s74, z57_g75, z57_g76]
            try simp only [ew, Nat.reduceAdd, Nat.reduceMul, Nat.reduceLeDiff, Int.reduceBNe, Int.reduceBEq, Int.reduceLT, Int.reduceLE]
            refine ⟨h1, ?_⟩
            have a1 : ∀ o, (setO M (K.size + 1 + 1) o).arr[K.size + 1 + 1]? = some o := fun o => arr_setO_self hlp
            have a2 : ∀ o, own (setO M (K.size + 1 + 1) o) (H.size + 1) = some #[iv 0] := fun o => by rw [own_setO_ne (by omega)]; exact t2
            refine brV_d (fun hneg => ?_) (fun hnn => ?_)
            · rw [wr 0 2 (a2 _), bnd_some]
              refine ⟨((Ext.refl [H.size + 1] _).setB _ _ (Or.inl (by simp))).arr (a1 _) (by simp; omega), .inr ⟨?_, ?_, ?_, ?_, okA_gap hk hneg⟩⟩
              · exact (((he.mono (by simp)).setO _ _ (Or.inr (by omega))).setB _ _ (Or.inl (by simp))).setO _ _ (Or.inr (by omega))
              · exact arr_setO_self (by rw [size_setB, size_setO]; exact hlp)
              · rw [arr_setO_ne (by omega)]
                exact ((Ext.refl [H.size + 1] _).setB _ _ (Or.inl (by simp))).arr (by rw [arr_setO_ne (by omega)]; exact h2) (by simp; omega)
              · rw [own_setO_ne (by omega)]; exact own_setB_same (a2 _)
            · refine ⟨a1 _, .inl ⟨?_, ?_, ?_, ?_⟩⟩
              · exact (he.setO _ _ (Or.inr (by omega))).setO _ _ (Or.inr (by omega))
              · exact arr_setO_self (by rw [size_setO]; exact hlp)
              · rw [arr_setO_ne (by omega), arr_setO_ne (by omega)]; exact h2
              · intro j hj hjl
                rcases Nat.lt_or_ge j k with h | h
                · exact h3 j h hjl
                · have : j = k := by omega
                  subst this; omega
theorem frameHas_ev {H : Heap} {v : Value} {a : AckR} {n : Int} {R : Value → Heap → Prop} (hv : ShowA rngE H v a.rs) (hR : ∀ H', Ext [] H H' → R (.bool (okA a && hasR a.rs n)) H') : EvF P N.frame_Has #[.agg (ackC v a), iv n] H R := by
  refine z61_ev _ _ _ _ ?_
  simp only [z61_g5, z61_g6, frame_Has]
  try simp only [ew, Nat.reduceAdd, Nat.reduceMul, Nat.reduceLeDiff, Int.reduceBNe, Int.reduceBEq, Int.reduceLT, Int.reduceLE]
  generalize hK0 : newB (newB H _ _) _ _ = K0
  have e0 : Ext [] H K0 := by rw [← hK0]; exact ((Ext.refl _ _).newB _ _).newB _ _
  have q1 : own K0 H.size = some (ackC v a) := by rw [← hK0, own_newB_ne (by rw [size_newB]; omega), own_newB_self]
  have q2 : own K0 (H.size + 1) = some #[iv n] := by rw [← hK0, show H.size + 1 = (newB H _ (ackC v a)).size from (size_newB _ _ _).symm, own_newB_self]
  try simp only [ew, Nat.reduceAdd, Nat.reduceMul, Nat.reduceLeDiff, Int.reduceBNe, Int.reduceBEq, Int.reduceLT, Int.reduceLE, ldE_t, rdA_u, own_blk q1, ackC_g]
  refine frameCheck_ev (hv.ext e0) fun K1 e1 => ?_
  have q11 := e1.own q1 (by simp)
  have q21 := e1.own q2 (by simp)
  unfold chkA
  by_cases h : okA a = true
  · rw [if_pos h]
    try simp only [ew, Nat.reduceAdd, Nat.reduceMul, Nat.reduceLeDiff, Int.reduceBNe, Int.reduceBEq, Int.reduceLT, Int.reduceLE, ldE_f, own_blk q11, ackC_1]
    refine anyR_ev (g := fun r => decide (r.1 ≤ n ∧ n ≤ r.2)) (hv.ext (e0.trans e1)) (fun r _ K e Q hQ => ?_) fun K2 e2 => ?_
    · have q3 := e.own q21 (by simp)
      try simp only [ew, Nat.reduceAdd, Nat.reduceMul, Nat.reduceLeDiff, Int.reduceBNe, Int.reduceBEq, Int.reduceLT, Int.reduceLE]
      refine z107_ev _ _ _ _ ?_
      simp only [z107_g5, z107_g6, frame_Has_1]
      try simp only [ew, Nat.reduceAdd, Nat.reduceMul, Nat.reduceLeDiff, Int.reduceBNe, Int.reduceBEq, Int.reduceLT, Int.reduceLE]
      generalize hM : newB K _ _ = M
      have eM : Ext [] K M := by rw [← hM]; exact (Ext.refl _ _).newB _ _
      have qM : own M K.size = some (rngC r) := by rw [← hM]; exact own_newB_self
      have q4 := eM.own q3 (by simp)
      have hb : (#[iv n] : Array Value)[0]? = some (iv n) := rfl
      try simp only [ew, Nat.reduceAdd, Nat.reduceMul, Nat.reduceLeDiff, Int.reduceBNe, Int.reduceBEq, Int.reduceLT, Int.reduceLE, ldE_f, own_blk qM, own_blk q4, hb, rngC_0, rngC_1]
      refine brV_d (fun h => ?_) (fun h => ?_)
      · have := hQ M eM
        simpa [h] using this
      · have := hQ M eM
        simpa [h] using this
    · have := hR K2 (e0.trans (e1.trans e2))
      rw [h, Bool.true_and] at this
      exact this
  · have h' : okA a = false := by simpa using h
    rw [if_neg h]
    try simp only [ew, Nat.reduceAdd, Nat.reduceMul, Nat.reduceLeDiff, Int.reduceBNe, Int.reduceBEq, Int.reduceLT, Int.reduceLE]
    have := hR K1 (e0.trans e1)
    rw [h', Bool.false_and] at this
    exact this
end Go.Hc

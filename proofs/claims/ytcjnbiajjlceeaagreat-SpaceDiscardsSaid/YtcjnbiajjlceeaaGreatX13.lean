/- The log: what the small functions do. -/
import Derived.Test.YtcjnbiajjlceeaaGreatX12
set_option linter.unusedSimpArgs false
set_option linter.unusedVariables false
namespace Go.Hc
open Go

def slotC (s : Pkt × Bool) : Array Value := #[iv s.1.num, iv s.1.time, iv s.1.size, .bool s.1.el, .bool s.1.fl, .bool s.1.ec, .bool s.2]
def slotE : Enc (Pkt × Bool) := ⟨7, slotC (pkt0, false), slotC, fun _ => rfl, rfl, fun _ => by simp [slotC, isCell], by simp [slotC, isCell]⟩
def logC (room last : Int) (rb n cap : Nat) (fr lo ma fl el : Int) : Array Value := #[iv room, iv last, .slice (some ⟨rb, 0, none⟩) n cap, iv fr, iv lo, iv ma, iv fl, iv el]
section
variable {room last : Int} {rb n cap : Nat} {fr lo ma fl el x : Int} {rb' n' cap' : Nat}
theorem logC_0 : (logC room last rb n cap fr lo ma fl el)[0]? = some (iv room) := rfl
theorem logC_1 : (logC room last rb n cap fr lo ma fl el)[1]? = some (iv last) := rfl
theorem logC_2 : (logC room last rb n cap fr lo ma fl el)[2]? = some (.slice (some ⟨rb, 0, none⟩) n cap) := rfl
theorem logC_3 : (logC room last rb n cap fr lo ma fl el)[3]? = some (iv fr) := rfl
theorem logC_4 : (logC room last rb n cap fr lo ma fl el)[4]? = some (iv lo) := rfl
theorem logC_5 : (logC room last rb n cap fr lo ma fl el)[5]? = some (iv ma) := rfl
theorem logC_6 : (logC room last rb n cap fr lo ma fl el)[6]? = some (iv fl) := rfl
theorem logC_7 : (logC room last rb n cap fr lo ma fl el)[7]? = some (iv el) := rfl
theorem logC_s : (logC room last rb n cap fr lo ma fl el).size = 8 := rfl
theorem logC_w1 : splice (logC room last rb n cap fr lo ma fl el) 1 [iv x] = logC room x rb n cap fr lo ma fl el := rfl
theorem logC_w2 : splice (logC room last rb n cap fr lo ma fl el) 2 [.slice (some ⟨rb', 0, none⟩) n' cap'] = logC room last rb' n' cap' fr lo ma fl el := rfl
theorem logC_w3 : splice (logC room last rb n cap fr lo ma fl el) 3 [iv x] = logC room last rb n cap x lo ma fl el := rfl
theorem logC_w4 : splice (logC room last rb n cap fr lo ma fl el) 4 [iv x] = logC room last rb n cap fr x ma fl el := rfl
theorem logC_w5 : splice (logC room last rb n cap fr lo ma fl el) 5 [iv x] = logC room last rb n cap fr lo x fl el := rfl
theorem logC_w6 : splice (logC room last rb n cap fr lo ma fl el) 6 [iv x] = logC room last rb n cap fr lo ma x el := rfl
theorem logC_w7 : splice (logC room last rb n cap fr lo ma fl el) 7 [iv x] = logC room last rb n cap fr lo ma fl x := rfl
end

theorem none_nil {H : Heap} {R : Value → Heap → Prop} (hR : R (.bool true) H) : EvF P N.sent_Log_none #[.pointer none] H R := by
  refine z99_ev _ _ _ ?_
  simp only [z99_g5, z99_g6, sent_Log_none]
  try simp only [bnd_some, brV_t, brV_f, brG_t, brG_f, newE_u, pickE_t, pickE_f, nilV_p, faV_p, ldE_f, ldE_t, rdA_u, stE_p, cells_int, cells_bool, cells_ptr, cells_slice, cells_func, cells_agg, bin_add, bin_sub, bin_mul, bin_eql, bin_neq, bin_lss, bin_leq, bin_gtr, bin_geq, bin_eqlb, bin_neqb, bin_eqlp, bin_eqlp0, bin_neqp, bin_neqp0, bin_eqls, bin_eqls0, un_not, un_neg, len_s, cap_s, ex_t, cv_i, callV_f, Option.bind_some, Option.map_some, Nat.zero_add, Nat.add_zero, Nat.reduceAdd, Nat.reduceMul, size_newB, size_setB, blk_newB_self, own_newB_self, wrA_b, own_setB_m, blk_setB_m, setB_setB, List.getElem?_toArray, List.getElem?_cons_zero, List.getElem?_cons_succ, List.length_cons, List.length_nil, List.all_cons, List.all_nil, isCell_int, isCell_bool, isCell_ptr, isCell_slice, isCell_func, Bool.and_true, Bool.and_self, and_self, if_true, List.size_toArray, and_true, true_and, Nat.reduceLeDiff, Nat.le_refl, Bool.not_true, Bool.not_false, Bool.true_and, Bool.false_and, Bool.and_false, Int.reduceBNe, Int.reduceBEq, Int.reduceLT, Int.reduceLE, decide_true, decide_false, Option.isNone_none]
  exact hR
theorem none_ev {b rb n cap : Nat} {room last fr lo ma fl el : Int} {H : Heap} {R : Value → Heap → Prop} (hb : own H b = some (logC room last rb n cap fr lo ma fl el)) (h0 : room ≠ 0)
    (hR : R (.bool false) H) : EvF P N.sent_Log_none #[ptr b] H R := by
  refine z99_ev _ _ _ ?_
  have h0' : (room == 0) = false := by simpa using h0
  simp only [z99_g5, z99_g6, sent_Log_none]
  try simp only [bnd_some, brV_t, brV_f, brG_t, brG_f, newE_u, pickE_t, pickE_f, nilV_p, faV_p, ldE_f, ldE_t, rdA_u, stE_p, cells_int, cells_bool, cells_ptr, cells_slice, cells_func, cells_agg, bin_add, bin_sub, bin_mul, bin_eql, bin_neq, bin_lss, bin_leq, bin_gtr, bin_geq, bin_eqlb, bin_neqb, bin_eqlp, bin_eqlp0, bin_neqp, bin_neqp0, bin_eqls, bin_eqls0, un_not, un_neg, len_s, cap_s, ex_t, cv_i, callV_f, Option.bind_some, Option.map_some, Nat.zero_add, Nat.add_zero, Nat.reduceAdd, Nat.reduceMul, size_newB, size_setB, blk_newB_self, own_newB_self, wrA_b, own_setB_m, blk_setB_m, setB_setB, List.getElem?_toArray, List.getElem?_cons_zero, List.getElem?_cons_succ, List.length_cons, List.length_nil, List.all_cons, List.all_nil, isCell_int, isCell_bool, isCell_ptr, isCell_slice, isCell_func, Bool.and_true, Bool.and_self, and_self, if_true, List.size_toArray, and_true, true_and, Nat.reduceLeDiff, Nat.le_refl, Bool.not_true, Bool.not_false, Bool.true_and, Bool.false_and, Bool.and_false, Int.reduceBNe, Int.reduceBEq, Int.reduceLT, Int.reduceLE, decide_true, decide_false, own_blk hb, logC_0, h0']
  exact hR
theorem at_ev {b rb n cap : Nat} {room last fr lo ma fl el i : Int} {H : Heap} {R : Value → Heap → Prop} (hb : own H b = some (logC room last rb n cap fr lo ma fl el))
    (hn : 0 < n ∧ n ≤ 512) (hf : 0 ≤ fr ∧ fr < n) (hi : 0 ≤ i ∧ i ≤ n)
    (hR : R (.pointer (some ⟨rb, ((fr + i) % n).toNat * 7, none⟩)) H) : EvF P N.sent_Log_at #[ptr b, iv i] H R := by
  refine z110_ev _ _ _ _ ?_
  have h1 : (0:Int) < n := by omega
  have h2 : IntKind.i64.wrap (fr + i) = fr + i := wrap_in (by omega)
  have h3 : (fr + i).tmod n = (fr + i) % n := Int.tmod_eq_emod_of_nonneg (by omega)
  have h4 := Int.emod_nonneg (fr + i) (b := n) (by omega)
  have h5 := Int.emod_lt_of_pos (fr + i) h1
  simp only [z110_g5, z110_g6, sent_Log_at]
  try simp only [bnd_some, brV_t, brV_f, brG_t, brG_f, newE_u, pickE_t, pickE_f, nilV_p, faV_p, ldE_f, ldE_t, rdA_u, stE_p, cells_int, cells_bool, cells_ptr, cells_slice, cells_func, cells_agg, bin_add, bin_sub, bin_mul, bin_eql, bin_neq, bin_lss, bin_leq, bin_gtr, bin_geq, bin_eqlb, bin_neqb, bin_eqlp, bin_eqlp0, bin_neqp, bin_neqp0, bin_eqls, bin_eqls0, un_not, un_neg, len_s, cap_s, ex_t, cv_i, callV_f, Option.bind_some, Option.map_some, Nat.zero_add, Nat.add_zero, Nat.reduceAdd, Nat.reduceMul, size_newB, size_setB, blk_newB_self, own_newB_self, wrA_b, own_setB_m, blk_setB_m, setB_setB, List.getElem?_toArray, List.getElem?_cons_zero, List.getElem?_cons_succ, List.length_cons, List.length_nil, List.all_cons, List.all_nil, isCell_int, isCell_bool, isCell_ptr, isCell_slice, isCell_func, Bool.and_true, Bool.and_self, and_self, if_true, List.size_toArray, and_true, true_and, Nat.reduceLeDiff, Nat.le_refl, Bool.not_true, Bool.not_false, Bool.true_and, Bool.false_and, Bool.and_false, Int.reduceBNe, Int.reduceBEq, Int.reduceLT, Int.reduceLE, decide_true, decide_false, own_blk hb, logC_2, logC_3, h2, bin_rem (show (n:Int) ≠ 0 by omega), h3, ixS_u (show 0 ≤ (fr + i) % n ∧ (fr + i) % n < n from ⟨h4, h5⟩)]
  exact hR
theorem count_ev {b rb n cap : Nat} {room last fr lo ma fl el by_ : Int} {p : Pkt} {H : Heap} {R : Value → Heap → Prop} (hb : own H b = some (logC room last rb n cap fr lo ma fl el))
    (hby : by_ = 1 ∨ by_ = -1) (hm : 0 ≤ ma ∧ ma ≤ 1000) (hl : 0 ≤ el ∧ el ≤ 1000) (hf : 0 ≤ fl ∧ fl ≤ 1099511627776) (hp : 0 ≤ p.size ∧ p.size ≤ 65535)
    (hR : ∀ H', Ext [b] H H' → own H' b = some (logC room last rb n cap fr lo (ma + by_) (if p.fl then fl + by_ * p.size else fl) (if p.fl && p.el then el + by_ else el)) →
      (∀ b', b' ≠ b → b' < H.size → own H' b' = own H b') → R (.tuple #[]) H') :
    EvF P N.sent_Log_count #[ptr b, .agg (pktC p), iv by_] H R := by
  refine z155_ev _ _ _ _ _ ?_
  have hlt := own_lt hb
  have hne : b ≠ H.size := by omega
  have w1 : IntKind.i64.wrap (ma + by_) = ma + by_ := wrap_in (by omega)
  have w2 : IntKind.i64.wrap (el + by_) = el + by_ := wrap_in (by omega)
  have w3 : IntKind.i64.wrap (by_ * p.size) = by_ * p.size := wrap_in (by rcases hby with rfl | rfl <;> omega)
  have w4 : IntKind.i64.wrap (fl + by_ * p.size) = fl + by_ * p.size := wrap_in (by rcases hby with rfl | rfl <;> omega)
  have hq : ∀ c, blk (setB (newB H 40 (pktC p)) b c) H.size = some (pktC p) := fun c => by rw [blk_setB_ne (Ne.symm hne), blk_newB_self]
  have hx : ∀ b' c, b' ≠ b → b' < H.size → own (setB (newB H 40 (pktC p)) b c) b' = own H b' := fun b' c h1 h2 => by rw [own_setB_ne h1, own_newB_ne (by omega)]
  have he : ∀ c, Ext [b] H (setB (newB H 40 (pktC p)) b c) := fun c => ((Ext.refl _ _).newB _ _).setB _ _ (Or.inl (by simp))
  have ho : ∀ c, own (setB (newB H 40 (pktC p)) b c) b = some c := fun c => own_setB_same (by rw [own_newB_ne hne]; exact hb)
  have step : ∀ c, (p.fl = false → c = logC room last rb n cap fr lo (ma + by_) fl el) → (p.fl = true → p.el = false → c = logC room last rb n cap fr lo (ma + by_) (fl + by_ * p.size) el) →
      (p.fl = true → p.el = true → c = logC room last rb n cap fr lo (ma + by_) (fl + by_ * p.size) (el + by_)) → R (.tuple #[]) (setB (newB H 40 (pktC p)) b c) := fun c h1 h2 h3 => by
    refine hR _ (he c) ?_ fun b' h1 h2 => hx b' c h1 h2
    rw [ho]
    cases hfl : p.fl
    · rw [h1 hfl]; simp
    · cases hel : p.el
      · rw [h2 hfl hel]; simp
      · rw [h3 hfl hel]; simp
  simp only [z155_g15, z155_g16, z155_g17, z155_g18, z155_g19, z155_g20, sent_Log_count]
  try simp only [bnd_some, brV_t, brV_f, brG_t, brG_f, newE_u, pickE_t, pickE_f, nilV_p, faV_p, ldE_f, ldE_t, rdA_u, stE_p, cells_int, cells_bool, cells_ptr, cells_slice, cells_func, cells_agg, bin_add, bin_sub, bin_mul, bin_eql, bin_neq, bin_lss, bin_leq, bin_gtr, bin_geq, bin_eqlb, bin_neqb, bin_eqlp, bin_eqlp0, bin_neqp, bin_neqp0, bin_eqls, bin_eqls0, un_not, un_neg, len_s, cap_s, ex_t, cv_i, callV_f, Option.bind_some, Option.map_some, Nat.zero_add, Nat.add_zero, Nat.reduceAdd, Nat.reduceMul, size_newB, size_setB, blk_newB_self, own_newB_self, wrA_b, own_setB_m, blk_setB_m, setB_setB, List.getElem?_toArray, List.getElem?_cons_zero, List.getElem?_cons_succ, List.length_cons, List.length_nil, List.all_cons, List.all_nil, isCell_int, isCell_bool, isCell_ptr, isCell_slice, isCell_func, Bool.and_true, Bool.and_self, and_self, if_true, List.size_toArray, and_true, true_and, Nat.reduceLeDiff, Nat.le_refl, Bool.not_true, Bool.not_false, Bool.true_and, Bool.false_and, Bool.and_false, Int.reduceBNe, Int.reduceBEq, Int.reduceLT, Int.reduceLE, decide_true, decide_false, blk_newB_ne hne, own_newB_ne hne, own_blk hb, hb, logC_5, logC_6, logC_7, logC_s, logC_w5, logC_w6, logC_w7, w1, w2, w3, w4, hq, pktC_3, pktC_4, pktC_2]
  refine brV_i (fun h => ?_) (fun h => ?_)
  · exact step _ (fun _ => rfl) (fun h' => by simp [h'] at h) (fun h' => by simp [h'] at h)
  · have h' : p.fl = true := by simpa using h
    refine brV_i (fun h2 => ?_) (fun h2 => ?_)
    · exact step _ (fun h'' => by simp [h''] at h') (fun _ h3 => by simp [h3] at h2) (fun _ _ => rfl)
    · exact step _ (fun h'' => by simp [h''] at h') (fun _ _ => rfl) (fun _ h3 => by simp [h3] at h2)
theorem more_ev {b rb n cap : Nat} {room last fr lo ma fl el : Int} {p : Pkt} {H : Heap} {R : Value → Heap → Prop} (hb : own H b = some (logC room last rb n cap fr lo ma fl el))
    (hm : 0 ≤ ma ∧ ma ≤ 1000) (hl : 0 ≤ el ∧ el ≤ 1000) (hf : 0 ≤ fl ∧ fl ≤ 1099511627776) (hp : 0 ≤ p.size ∧ p.size ≤ 65535)
    (hR : ∀ H', Ext [b] H H' → own H' b = some (logC room last rb n cap fr lo (ma + 1) (if p.fl then fl + 1 * p.size else fl) (if p.fl && p.el then el + 1 else el)) →
      (∀ b', b' ≠ b → b' < H.size → own H' b' = own H b') → R (.tuple #[]) H') :
    EvF P N.sent_Log_more #[ptr b, .agg (pktC p)] H R := by
  refine z111_ev _ _ _ _ ?_
  have hne : b ≠ H.size := by have := own_lt hb; omega
  simp only [z111_g4, z111_g5, sent_Log_more]
  try simp only [bnd_some, brV_t, brV_f, brG_t, brG_f, newE_u, pickE_t, pickE_f, nilV_p, faV_p, ldE_f, ldE_t, rdA_u, stE_p, cells_int, cells_bool, cells_ptr, cells_slice, cells_func, cells_agg, bin_add, bin_sub, bin_mul, bin_eql, bin_neq, bin_lss, bin_leq, bin_gtr, bin_geq, bin_eqlb, bin_neqb, bin_eqlp, bin_eqlp0, bin_neqp, bin_neqp0, bin_eqls, bin_eqls0, un_not, un_neg, len_s, cap_s, ex_t, cv_i, callV_f, Option.bind_some, Option.map_some, Nat.zero_add, Nat.add_zero, Nat.reduceAdd, Nat.reduceMul, size_newB, size_setB, blk_newB_self, own_newB_self, wrA_b, own_setB_m, blk_setB_m, setB_setB, List.getElem?_toArray, List.getElem?_cons_zero, List.getElem?_cons_succ, List.length_cons, List.length_nil, List.all_cons, List.all_nil, isCell_int, isCell_bool, isCell_ptr, isCell_slice, isCell_func, Bool.and_true, Bool.and_self, and_self, if_true, List.size_toArray, and_true, true_and, Nat.reduceLeDiff, Nat.le_refl, Bool.not_true, Bool.not_false, Bool.true_and, Bool.false_and, Bool.and_false, Int.reduceBNe, Int.reduceBEq, Int.reduceLT, Int.reduceLE, decide_true, decide_false, pktC_g]
  refine count_ev (by rw [own_newB_ne hne]; exact hb) (Or.inl rfl) hm hl hf hp fun H' he ho hx => ?_
  refine hR H' (((Ext.refl _ _).newB _ _).trans he) ho fun b' h1 h2 => ?_
  rw [hx b' h1 (by rw [size_newB]; omega), own_newB_ne (by omega)]
theorem less_ev {b rb n cap : Nat} {room last fr lo ma fl el : Int} {p : Pkt} {H : Heap} {R : Value → Heap → Prop} (hb : own H b = some (logC room last rb n cap fr lo ma fl el))
    (hm : 0 ≤ ma ∧ ma ≤ 1000) (hl : 0 ≤ el ∧ el ≤ 1000) (hf : 0 ≤ fl ∧ fl ≤ 1099511627776) (hp : 0 ≤ p.size ∧ p.size ≤ 65535)
    (hR : ∀ H', Ext [b] H H' → own H' b = some (logC room last rb n cap fr lo (ma + -1) (if p.fl then fl + -1 * p.size else fl) (if p.fl && p.el then el + -1 else el)) →
      (∀ b', b' ≠ b → b' < H.size → own H' b' = own H b') → R (.tuple #[]) H') :
    EvF P N.sent_Log_less #[ptr b, .agg (pktC p)] H R := by
  refine z148_ev _ _ _ _ ?_
  have hne : b ≠ H.size := by have := own_lt hb; omega
  simp only [z148_g4, z148_g5, sent_Log_less]
  try simp only [bnd_some, brV_t, brV_f, brG_t, brG_f, newE_u, pickE_t, pickE_f, nilV_p, faV_p, ldE_f, ldE_t, rdA_u, stE_p, cells_int, cells_bool, cells_ptr, cells_slice, cells_func, cells_agg, bin_add, bin_sub, bin_mul, bin_eql, bin_neq, bin_lss, bin_leq, bin_gtr, bin_geq, bin_eqlb, bin_neqb, bin_eqlp, bin_eqlp0, bin_neqp, bin_neqp0, bin_eqls, bin_eqls0, un_not, un_neg, len_s, cap_s, ex_t, cv_i, callV_f, Option.bind_some, Option.map_some, Nat.zero_add, Nat.add_zero, Nat.reduceAdd, Nat.reduceMul, size_newB, size_setB, blk_newB_self, own_newB_self, wrA_b, own_setB_m, blk_setB_m, setB_setB, List.getElem?_toArray, List.getElem?_cons_zero, List.getElem?_cons_succ, List.length_cons, List.length_nil, List.all_cons, List.all_nil, isCell_int, isCell_bool, isCell_ptr, isCell_slice, isCell_func, Bool.and_true, Bool.and_self, and_self, if_true, List.size_toArray, and_true, true_and, Nat.reduceLeDiff, Nat.le_refl, Bool.not_true, Bool.not_false, Bool.true_and, Bool.false_and, Bool.and_false, Int.reduceBNe, Int.reduceBEq, Int.reduceLT, Int.reduceLE, decide_true, decide_false, pktC_g]
  refine count_ev (by rw [own_newB_ne hne]; exact hb) (Or.inr rfl) hm hl hf hp fun H' he ho hx => ?_
  refine hR H' (((Ext.refl _ _).newB _ _).trans he) ho fun b' h1 h2 => ?_
  rw [hx b' h1 (by rw [size_newB]; omega), own_newB_ne (by omega)]
/-- What may be a packet. -/
def May (p : Pkt) : Prop := 0 ≤ p.num ∧ p.num ≤ 9007199254740991 ∧ 0 ≤ p.time ∧ p.time ≤ 9007199254740991 ∧ 1 ≤ p.size ∧ p.size ≤ 65535
instance (p : Pkt) : Decidable (May p) := by unfold May; infer_instance
theorem may1_ev {a b c : Int} {H : Heap} {R : Value → Heap → Prop} (hR : R (.bool (decide (b ≤ a ∧ a ≤ c))) H) : EvF P N.sent_may_1 #[iv a, iv b, iv c] H R := by
  refine z154_ev _ _ _ _ _ ?_
  simp only [z154_g5, z154_g6, sent_may_1]
  try simp only [bnd_some, brV_t, brV_f, brG_t, brG_f, newE_u, pickE_t, pickE_f, nilV_p, faV_p, ldE_f, ldE_t, rdA_u, stE_p, cells_int, cells_bool, cells_ptr, cells_slice, cells_func, cells_agg, bin_add, bin_sub, bin_mul, bin_eql, bin_neq, bin_lss, bin_leq, bin_gtr, bin_geq, bin_eqlb, bin_neqb, bin_eqlp, bin_eqlp0, bin_neqp, bin_neqp0, bin_eqls, bin_eqls0, un_not, un_neg, len_s, cap_s, ex_t, cv_i, callV_f, Option.bind_some, Option.map_some, Nat.zero_add, Nat.add_zero, Nat.reduceAdd, Nat.reduceMul, size_newB, size_setB, blk_newB_self, own_newB_self, wrA_b, own_setB_m, blk_setB_m, setB_setB, List.getElem?_toArray, List.getElem?_cons_zero, List.getElem?_cons_succ, List.length_cons, List.length_nil, List.all_cons, List.all_nil, isCell_int, isCell_bool, isCell_ptr, isCell_slice, isCell_func, Bool.and_true, Bool.and_self, and_self, if_true, List.size_toArray, and_true, true_and, Nat.reduceLeDiff, Nat.le_refl, Bool.not_true, Bool.not_false, Bool.true_and, Bool.false_and, Bool.and_false, Int.reduceBNe, Int.reduceBEq, Int.reduceLT, Int.reduceLE, decide_true, decide_false]
  refine brV_d (fun h => ?_) (fun h => ?_)
  · simpa [h] using hR
  · simpa [h] using hR
theorem may_ev {p : Pkt} {H : Heap} {R : Value → Heap → Prop} (hR : ∀ H', Ext [] H H' → R (.bool (decide (May p))) H') : EvF P N.sent_may #[.agg (pktC p)] H R := by
  refine z108_ev _ _ _ ?_
  have hR' := hR _ ((Ext.refl _ H).newB 40 (pktC p))
  simp only [z108_g7, z108_g8, z108_g9, sent_may]
  try simp only [bnd_some, brV_t, brV_f, brG_t, brG_f, newE_u, pickE_t, pickE_f, nilV_p, faV_p, ldE_f, ldE_t, rdA_u, stE_p, cells_int, cells_bool, cells_ptr, cells_slice, cells_func, cells_agg, bin_add, bin_sub, bin_mul, bin_eql, bin_neq, bin_lss, bin_leq, bin_gtr, bin_geq, bin_eqlb, bin_neqb, bin_eqlp, bin_eqlp0, bin_neqp, bin_neqp0, bin_eqls, bin_eqls0, un_not, un_neg, len_s, cap_s, ex_t, cv_i, callV_f, Option.bind_some, Option.map_some, Nat.zero_add, Nat.add_zero, Nat.reduceAdd, Nat.reduceMul, size_newB, size_setB, blk_newB_self, own_newB_self, wrA_b, own_setB_m, blk_setB_m, setB_setB, List.getElem?_toArray, List.getElem?_cons_zero, List.getElem?_cons_succ, List.length_cons, List.length_nil, List.all_cons, List.all_nil, isCell_int, isCell_bool, isCell_ptr, isCell_slice, isCell_func, Bool.and_true, Bool.and_self, and_self, if_true, List.size_toArray, and_true, true_and, Nat.reduceLeDiff, Nat.le_refl, Bool.not_true, Bool.not_false, Bool.true_and, Bool.false_and, Bool.and_false, Int.reduceBNe, Int.reduceBEq, Int.reduceLT, Int.reduceLE, decide_true, decide_false, pktC_0, pktC_1, pktC_2, Array.toList_empty, List.nil_append, List.append_nil]
  refine may1_ev ?_
  refine brV_d (fun h => ?_) (fun h => ?_)
  · try simp only [bnd_some, brV_t, brV_f, brG_t, brG_f, newE_u, pickE_t, pickE_f, nilV_p, faV_p, ldE_f, ldE_t, rdA_u, stE_p, cells_int, cells_bool, cells_ptr, cells_slice, cells_func, cells_agg, bin_add, bin_sub, bin_mul, bin_eql, bin_neq, bin_lss, bin_leq, bin_gtr, bin_geq, bin_eqlb, bin_neqb, bin_eqlp, bin_eqlp0, bin_neqp, bin_neqp0, bin_eqls, bin_eqls0, un_not, un_neg, len_s, cap_s, ex_t, cv_i, callV_f, Option.bind_some, Option.map_some, Nat.zero_add, Nat.add_zero, Nat.reduceAdd, Nat.reduceMul, size_newB, size_setB, blk_newB_self, own_newB_self, wrA_b, own_setB_m, blk_setB_m, setB_setB, List.getElem?_toArray, List.getElem?_cons_zero, List.getElem?_cons_succ, List.length_cons, List.length_nil, List.all_cons, List.all_nil, isCell_int, isCell_bool, isCell_ptr, isCell_slice, isCell_func, Bool.and_true, Bool.and_self, and_self, if_true, List.size_toArray, and_true, true_and, Nat.reduceLeDiff, Nat.le_refl, Bool.not_true, Bool.not_false, Bool.true_and, Bool.false_and, Bool.and_false, Int.reduceBNe, Int.reduceBEq, Int.reduceLT, Int.reduceLE, decide_true, decide_false, pktC_1]
    refine may1_ev ?_
    refine brV_d (fun h2 => ?_) (fun h2 => ?_)
    · try simp only [bnd_some, brV_t, brV_f, brG_t, brG_f, newE_u, pickE_t, pickE_f, nilV_p, faV_p, ldE_f, ldE_t, rdA_u, stE_p, cells_int, cells_bool, cells_ptr, cells_slice, cells_func, cells_agg, bin_add, bin_sub, bin_mul, bin_eql, bin_neq, bin_lss, bin_leq, bin_gtr, bin_geq, bin_eqlb, bin_neqb, bin_eqlp, bin_eqlp0, bin_neqp, bin_neqp0, bin_eqls, bin_eqls0, un_not, un_neg, len_s, cap_s, ex_t, cv_i, callV_f, Option.bind_some, Option.map_some, Nat.zero_add, Nat.add_zero, Nat.reduceAdd, Nat.reduceMul, size_newB, size_setB, blk_newB_self, own_newB_self, wrA_b, own_setB_m, blk_setB_m, setB_setB, List.getElem?_toArray, List.getElem?_cons_zero, List.getElem?_cons_succ, List.length_cons, List.length_nil, List.all_cons, List.all_nil, isCell_int, isCell_bool, isCell_ptr, isCell_slice, isCell_func, Bool.and_true, Bool.and_self, and_self, if_true, List.size_toArray, and_true, true_and, Nat.reduceLeDiff, Nat.le_refl, Bool.not_true, Bool.not_false, Bool.true_and, Bool.false_and, Bool.and_false, Int.reduceBNe, Int.reduceBEq, Int.reduceLT, Int.reduceLE, decide_true, decide_false, pktC_2]
      refine may1_ev ?_
      simpa [May, h, h2] using hR'
    · have : ¬ May p := fun hm => h2 ⟨hm.2.2.1, hm.2.2.2.1⟩
      simpa [this] using hR'
  · have : ¬ May p := fun hm => h ⟨hm.1, hm.2.1⟩
    simpa [this] using hR'

/-- The log at b, its ring at rb, from the slot fr on, has the slots sl. -/
structure LogR (H : Heap) (b rb cap room : Nat) (top : Int) (fr : Nat) (sl : List (Pkt × Bool)) (ma fl el : Int) : Prop where
  log : own H b = some (logC room top rb (2 * room) cap fr sl.length ma fl el)
  ne : b ≠ rb
  hroom : 1 ≤ room ∧ room ≤ 256
  hfr : fr < 2 * room
  hlen : sl.length ≤ 2 * room
  ring : ∃ c f, own H rb = some c ∧ Rows 7 c cap f ∧ 2 * room ≤ cap ∧ ∀ i (h : i < sl.length), f ((fr + i) % (2 * room)) = slotC sl[i]
theorem LogR.ext {H H' : Heap} {b rb cap room fr : Nat} {top ma fl el : Int} {sl : List (Pkt × Bool)} {S : List Nat} (h : LogR H b rb cap room top fr sl ma fl el) (he : Ext S H H') (h1 : b ∉ S) (h2 : rb ∉ S) :
    LogR H' b rb cap room top fr sl ma fl el := by
  obtain ⟨c, f, hc, hf⟩ := h.ring
  exact ⟨he.own h.log h1, h.ne, h.hroom, h.hfr, h.hlen, c, f, he.own hc h2, hf⟩
theorem slotC_0 {s : Pkt × Bool} : (slotC s)[0]? = some (iv s.1.num) := rfl
theorem slotC_6 {s : Pkt × Bool} : (slotC s)[6]? = some (.bool s.2) := rfl
theorem slotC_p {s : Pkt × Bool} : (slotC s).extract 0 6 = pktC s.1 := rfl
/-- what at answers -/
theorem LogR.at {H : Heap} {b rb cap room fr : Nat} {top ma fl el : Int} {sl : List (Pkt × Bool)} (h : LogR H b rb cap room top fr sl ma fl el) {i : Nat} (hi : i < sl.length) {R : Value → Heap → Prop}
    (hR : ∀ o c, blk H rb = some c → c[o]? = some (iv sl[i].1.num) → c[o + 6]? = some (.bool sl[i].2) → getC c o 6 = some (pktC sl[i].1) → o = (fr + i) % (2 * room) * 7 → R (.pointer (some ⟨rb, o, none⟩)) H) :
    EvF P N.sent_Log_at #[ptr b, iv i] H R := by
  have h1 := h.hroom
  have h2 := h.hfr
  have h3 := h.hlen
  refine at_ev h.log (by omega) (by omega) (by omega) ?_
  have e : (((fr : Int) + i) % ((2 * room : Nat) : Int)).toNat = (fr + i) % (2 * room) := by
    rw [← Int.natCast_add, ← Int.natCast_emod]; rfl
  rw [e]
  obtain ⟨c, f, hc, hr, hcap, hf⟩ := h.ring
  have hlt : (fr + i) % (2 * room) < cap := Nat.lt_of_lt_of_le (Nat.mod_lt _ (by omega)) hcap
  have hfi := hf i hi
  refine hR _ c (own_blk hc) ?_ ?_ ?_ rfl
  · have := hr.cell (j := 0) hlt (by omega); rw [hfi, slotC_0] at this; exact this
  · have := hr.cell (j := 6) hlt (by omega); rw [hfi, slotC_6] at this; exact this
  · have := hr.part (o := 0) (m := 6) hlt (by omega); rw [hfi] at this; exact this
/-- rising numbers -/
def Up (sl : List (Pkt × Bool)) : Prop := sl.Pairwise fun a b => a.1.num < b.1.num
theorem Up.lt {sl : List (Pkt × Bool)} (h : Up sl) {i j : Nat} (hi : i < sl.length) (hj : j < sl.length) (hij : i < j) : sl[i].1.num < sl[j].1.num :=
  List.pairwise_iff_getElem.1 h i j hi hj hij
theorem find_ev {H : Heap} {b rb cap room fr : Nat} {top ma fl el : Int} {sl : List (Pkt × Bool)} {n : Int} {R : Value → Heap → Prop} (h : LogR H b rb cap room top fr sl ma fl el) (hu : Up sl)
    (hR : ∀ k H', Ext [] H H' → k ≤ sl.length → (∀ i (hi : i < sl.length), i < k → sl[i].1.num < n) → (∀ i (hi : i < sl.length), k ≤ i → n ≤ sl[i].1.num) → R (iv k) H') :
    EvF P N.sent_Log_find #[ptr b, iv n] H R := by
  refine z170_ev _ _ _ _ ?_
  have hne : b ≠ H.size := by have := own_lt h.log; omega
  have hne2 : b ≠ H.size + 1 := by have := own_lt h.log; omega
  have hne' : H.size ≠ H.size + 1 := by omega
  have hs : (newB H 75 #[ptr b]).size = H.size + 1 := size_newB _ _ _
  have q1 : blk (newB (newB H 75 #[ptr b]) 3 #[iv n]) H.size = some #[ptr b] := by rw [blk_newB_ne (by rw [hs]; omega), blk_newB_self]
  have q2 : blk (newB (newB H 75 #[ptr b]) 3 #[iv n]) (H.size + 1) = some #[iv n] := by rw [← hs, blk_newB_self]
  have hE : Ext [] H (newB (newB H 75 #[ptr b]) 3 #[iv n]) := ((Ext.refl _ _).newB _ _).newB _ _
  have h' := h.ext hE (by simp) (by simp)
  have h1 := h.hroom
  have h3 := h.hlen
  simp only [z170_g5, z170_g6, sent_Log_find]
  try simp only [bnd_some, brV_t, brV_f, brG_t, brG_f, newE_u, pickE_t, pickE_f, nilV_p, faV_p, ldE_f, ldE_t, rdA_u, stE_p, cells_int, cells_bool, cells_ptr, cells_slice, cells_func, cells_agg, bin_add, bin_sub, bin_mul, bin_eql, bin_neq, bin_lss, bin_leq, bin_gtr, bin_geq, bin_eqlb, bin_neqb, bin_eqlp, bin_eqlp0, bin_neqp, bin_neqp0, bin_eqls, bin_eqls0, un_not, un_neg, len_s, cap_s, ex_t, cv_i, callV_f, Option.bind_some, Option.map_some, Nat.zero_add, Nat.add_zero, Nat.reduceAdd, Nat.reduceMul, size_newB, size_setB, blk_newB_self, own_newB_self, wrA_b, own_setB_m, blk_setB_m, setB_setB, List.getElem?_toArray, List.getElem?_cons_zero, List.getElem?_cons_succ, List.length_cons, List.length_nil, List.all_cons, List.all_nil, isCell_int, isCell_bool, isCell_ptr, isCell_slice, isCell_func, Bool.and_true, Bool.and_self, and_self, if_true, List.size_toArray, and_true, true_and, Nat.reduceLeDiff, Nat.le_refl, Bool.not_true, Bool.not_false, Bool.true_and, Bool.false_and, Bool.and_false, Int.reduceBNe, Int.reduceBEq, Int.reduceLT, Int.reduceLE, decide_true, decide_false, q1, own_blk h'.log, logC_4]
  refine Search_ev (g := fun i => ((sl[i]?).map fun s => decide (n ≤ s.1.num)).getD true) (by omega) (fun i hi Q hQ => ?_) (fun i j hij hj hg => ?_) (fun k hk ha hb => ?_)
  · try simp only [bnd_some, brV_t, brV_f, brG_t, brG_f, newE_u, pickE_t, pickE_f, nilV_p, faV_p, ldE_f, ldE_t, rdA_u, stE_p, cells_int, cells_bool, cells_ptr, cells_slice, cells_func, cells_agg, bin_add, bin_sub, bin_mul, bin_eql, bin_neq, bin_lss, bin_leq, bin_gtr, bin_geq, bin_eqlb, bin_neqb, bin_eqlp, bin_eqlp0, bin_neqp, bin_neqp0, bin_eqls, bin_eqls0, un_not, un_neg, len_s, cap_s, ex_t, cv_i, callV_f, Option.bind_some, Option.map_some, Nat.zero_add, Nat.add_zero, Nat.reduceAdd, Nat.reduceMul, size_newB, size_setB, blk_newB_self, own_newB_self, wrA_b, own_setB_m, blk_setB_m, setB_setB, List.getElem?_toArray, List.getElem?_cons_zero, List.getElem?_cons_succ, List.length_cons, List.length_nil, List.all_cons, List.all_nil, isCell_int, isCell_bool, isCell_ptr, isCell_slice, isCell_func, Bool.and_true, Bool.and_self, and_self, if_true, List.size_toArray, and_true, true_and, Nat.reduceLeDiff, Nat.le_refl, Bool.not_true, Bool.not_false, Bool.true_and, Bool.false_and, Bool.and_false, Int.reduceBNe, Int.reduceBEq, Int.reduceLT, Int.reduceLE, decide_true, decide_false, Array.toList_empty, List.nil_append, List.cons_append]
    refine z184_ev _ _ _ _ _ ?_
    simp only [z184_g5, z184_g6, sent_Log_find_1]
    try simp only [bnd_some, brV_t, brV_f, brG_t, brG_f, newE_u, pickE_t, pickE_f, nilV_p, faV_p, ldE_f, ldE_t, rdA_u, stE_p, cells_int, cells_bool, cells_ptr, cells_slice, cells_func, cells_agg, bin_add, bin_sub, bin_mul, bin_eql, bin_neq, bin_lss, bin_leq, bin_gtr, bin_geq, bin_eqlb, bin_neqb, bin_eqlp, bin_eqlp0, bin_neqp, bin_neqp0, bin_eqls, bin_eqls0, un_not, un_neg, len_s, cap_s, ex_t, cv_i, callV_f, Option.bind_some, Option.map_some, Nat.zero_add, Nat.add_zero, Nat.reduceAdd, Nat.reduceMul, size_newB, size_setB, blk_newB_self, own_newB_self, wrA_b, own_setB_m, blk_setB_m, setB_setB, List.getElem?_toArray, List.getElem?_cons_zero, List.getElem?_cons_succ, List.length_cons, List.length_nil, List.all_cons, List.all_nil, isCell_int, isCell_bool, isCell_ptr, isCell_slice, isCell_func, Bool.and_true, Bool.and_self, and_self, if_true, List.size_toArray, and_true, true_and, Nat.reduceLeDiff, Nat.le_refl, Bool.not_true, Bool.not_false, Bool.true_and, Bool.false_and, Bool.and_false, Int.reduceBNe, Int.reduceBEq, Int.reduceLT, Int.reduceLE, decide_true, decide_false, q1, q2]
    refine h'.at hi fun o c hc h0 _ _ _ => ?_
    try simp only [bnd_some, brV_t, brV_f, brG_t, brG_f, newE_u, pickE_t, pickE_f, nilV_p, faV_p, ldE_f, ldE_t, rdA_u, stE_p, cells_int, cells_bool, cells_ptr, cells_slice, cells_func, cells_agg, bin_add, bin_sub, bin_mul, bin_eql, bin_neq, bin_lss, bin_leq, bin_gtr, bin_geq, bin_eqlb, bin_neqb, bin_eqlp, bin_eqlp0, bin_neqp, bin_neqp0, bin_eqls, bin_eqls0, un_not, un_neg, len_s, cap_s, ex_t, cv_i, callV_f, Option.bind_some, Option.map_some, Nat.zero_add, Nat.add_zero, Nat.reduceAdd, Nat.reduceMul, size_newB, size_setB, blk_newB_self, own_newB_self, wrA_b, own_setB_m, blk_setB_m, setB_setB, List.getElem?_toArray, List.getElem?_cons_zero, List.getElem?_cons_succ, List.length_cons, List.length_nil, List.all_cons, List.all_nil, isCell_int, isCell_bool, isCell_ptr, isCell_slice, isCell_func, Bool.and_true, Bool.and_self, and_self, if_true, List.size_toArray, and_true, true_and, Nat.reduceLeDiff, Nat.le_refl, Bool.not_true, Bool.not_false, Bool.true_and, Bool.false_and, Bool.and_false, Int.reduceBNe, Int.reduceBEq, Int.reduceLT, Int.reduceLE, decide_true, decide_false, hc, h0, q2]
    simpa [hi] using hQ
  · have hi : i < sl.length := by omega
    simp only [List.getElem?_eq_getElem hi, List.getElem?_eq_getElem hj, Option.map_some, Option.getD_some, decide_eq_true_eq] at hg ⊢
    rcases Nat.lt_or_ge i j with h | h
    · have := hu.lt hi hj h; omega
    · have : i = j := by omega
      subst this; exact hg
  · refine hR k _ hE hk (fun i hi hik => ?_) (fun i hi hik => ?_)
    · have := ha i hik
      simp only [List.getElem?_eq_getElem hi, Option.map_some, Option.getD_some, decide_eq_false_iff_not] at this; omega
    · have := hb i hik hi
      simpa only [List.getElem?_eq_getElem hi, Option.map_some, Option.getD_some, decide_eq_true_eq] using this
end Go.Hc
set_option linter.unusedSimpArgs false
set_option linter.unusedVariables false
namespace Go.Hc
open Go

def live (sl : List (Pkt × Bool)) : List Pkt := (sl.filter (·.2)).map (·.1)
def flight : List Pkt → Int
  | [] => 0
  | p :: L => (if p.fl then p.size else 0) + flight L
def elic : List Pkt → Int
  | [] => 0
  | p :: L => (if p.fl && p.el then 1 else 0) + elic L
def RiseL (L : List Pkt) : Prop := L.Pairwise fun a b => a.num < b.num
/-- The log at b is well, and has the packets L. -/
structure LogS (H : Heap) (b rb cap room : Nat) (top : Int) (fr : Nat) (sl : List (Pkt × Bool)) (L : List Pkt) : Prop where
  rep : LogR H b rb cap room top fr sl L.length (flight L) (elic L)
  up : Up sl
  liv : live sl = L
  may : ∀ s ∈ sl, May s.1 ∧ s.1.num ≤ top
  htop : -1 ≤ top ∧ top ≤ 9007199254740991
  few : L.length ≤ room
  head : ∀ s ∈ sl.head?, s.2 = true
def LogOf (H : Heap) (b rb room : Nat) (top : Int) (L : List Pkt) : Prop := ∃ cap fr sl, LogS H b rb cap room top fr sl L

theorem LogS.ext {H H' : Heap} {b rb cap room fr : Nat} {top : Int} {sl : List (Pkt × Bool)} {L : List Pkt} {S : List Nat} (h : LogS H b rb cap room top fr sl L) (he : Ext S H H') (h1 : b ∉ S) (h2 : rb ∉ S) :
    LogS H' b rb cap room top fr sl L := ⟨h.rep.ext he h1 h2, h.up, h.liv, h.may, h.htop, h.few, h.head⟩
theorem LogOf.ext {H H' : Heap} {b rb room : Nat} {top : Int} {L : List Pkt} {S : List Nat} (h : LogOf H b rb room top L) (he : Ext S H H') (h1 : b ∉ S) (h2 : rb ∉ S) : LogOf H' b rb room top L := by
  obtain ⟨cap, fr, sl, h⟩ := h; exact ⟨cap, fr, sl, h.ext he h1 h2⟩
theorem LogOf.lt {H : Heap} {b rb room : Nat} {top : Int} {L : List Pkt} (h : LogOf H b rb room top L) : b < H.size ∧ rb < H.size := by
  obtain ⟨cap, fr, sl, h⟩ := h
  obtain ⟨c, f, hc, _⟩ := h.rep.ring
  exact ⟨own_lt h.rep.log, own_lt hc⟩
theorem mem_live {sl : List (Pkt × Bool)} {p : Pkt} : p ∈ live sl ↔ (p, true) ∈ sl := by
  simp [live]
theorem Up.unique {sl : List (Pkt × Bool)} (h : Up sl) {i j : Nat} (hi : i < sl.length) (hj : j < sl.length) (e : sl[i].1.num = sl[j].1.num) : i = j := by
  rcases Nat.lt_trichotomy i j with h1 | h1 | h1
  · have := h.lt hi hj h1; omega
  · exact h1
  · have := h.lt hj hi h1; omega
theorem Up.rise {sl : List (Pkt × Bool)} (h : Up sl) : RiseL (live sl) := by
  unfold live RiseL
  rw [List.pairwise_map]
  exact h.filter _
theorem find_live_some {sl : List (Pkt × Bool)} (h : Up sl) {i : Nat} (hi : i < sl.length) {n : Int} (hn : sl[i].1.num = n) (ht : sl[i].2 = true) :
    (live sl).find? (fun p => p.num == n) = some sl[i].1 := by
  have hm : sl[i].1 ∈ live sl := mem_live.2 (by rw [← ht]; exact List.getElem_mem hi)
  have hs : ((live sl).find? (fun p => p.num == n)).isSome := List.find?_isSome.2 ⟨_, hm, by simpa using hn⟩
  obtain ⟨q, hq⟩ := Option.isSome_iff_exists.1 hs
  rw [hq]
  have hqm := mem_live.1 (List.mem_of_find?_eq_some hq)
  have hqn := List.find?_some hq
  obtain ⟨j, hj, hjq⟩ := List.getElem_of_mem hqm
  have : j = i := h.unique hj hi (by rw [hjq, hn]; simpa using hqn)
  subst this; rw [hjq]
theorem find_live_none {sl : List (Pkt × Bool)} {n : Int} (h : ∀ i (hi : i < sl.length), sl[i].1.num = n → sl[i].2 = false) :
    (live sl).find? (fun p => p.num == n) = none := by
  rw [List.find?_eq_none]
  intro p hp hpn
  obtain ⟨j, hj, hjq⟩ := List.getElem_of_mem (mem_live.1 hp)
  have := h j hj (by rw [hjq]; simpa using hpn)
  rw [hjq] at this; simp at this

theorem slot_ev {H : Heap} {b rb cap room fr : Nat} {top ma fl el : Int} {sl : List (Pkt × Bool)} {n : Int} {R : Value → Heap → Prop} (h : LogR H b rb cap room top fr sl ma fl el) (hu : Up sl)
    (hN : ∀ H', Ext [] H H' → (∀ i (hi : i < sl.length), sl[i].1.num = n → sl[i].2 = false) → R (.pointer none) H')
    (hS : ∀ H' i (hi : i < sl.length) o c, Ext [] H H' → sl[i].1.num = n → sl[i].2 = true → blk H' rb = some c → getC c o 6 = some (pktC sl[i].1) → o = (fr + i) % (2 * room) * 7 → R (.pointer (some ⟨rb, o, none⟩)) H') :
    EvF P N.sent_Log_slot #[ptr b, iv n] H R := by
  refine z147_ev _ _ _ _ ?_
  have h1 := h.hroom
  simp only [z147_g27, z147_g28, z147_g29, z147_g30, z147_g31, z147_g32, z147_g33, z147_g34, z147_g35, z147_g36, sent_Log_slot]
  try simp only [bnd_some, brV_t, brV_f, brG_t, brG_f, newE_u, pickE_t, pickE_f, nilV_p, faV_p, ldE_f, ldE_t, rdA_u, stE_p, cells_int, cells_bool, cells_ptr, cells_slice, cells_func, cells_agg, bin_add, bin_sub, bin_mul, bin_eql, bin_neq, bin_lss, bin_leq, bin_gtr, bin_geq, bin_eqlb, bin_neqb, bin_eqlp, bin_eqlp0, bin_neqp, bin_neqp0, bin_eqls, bin_eqls0, un_not, un_neg, len_s, cap_s, ex_t, cv_i, callV_f, Option.bind_some, Option.map_some, Nat.zero_add, Nat.add_zero, Nat.reduceAdd, Nat.reduceMul, size_newB, size_setB, blk_newB_self, own_newB_self, wrA_b, own_setB_m, blk_setB_m, setB_setB, List.getElem?_toArray, List.getElem?_cons_zero, List.getElem?_cons_succ, List.length_cons, List.length_nil, List.all_cons, List.all_nil, isCell_int, isCell_bool, isCell_ptr, isCell_slice, isCell_func, Bool.and_true, Bool.and_self, and_self, if_true, List.size_toArray, and_true, true_and, Nat.reduceLeDiff, Nat.le_refl, Bool.not_true, Bool.not_false, Bool.true_and, Bool.false_and, Bool.and_false, Int.reduceBNe, Int.reduceBEq, Int.reduceLT, Int.reduceLE, decide_true, decide_false]
  refine none_ev h.log (by omega) ?_
  try simp only [bnd_some, brV_t, brV_f, brG_t, brG_f, newE_u, pickE_t, pickE_f, nilV_p, faV_p, ldE_f, ldE_t, rdA_u, stE_p, cells_int, cells_bool, cells_ptr, cells_slice, cells_func, cells_agg, bin_add, bin_sub, bin_mul, bin_eql, bin_neq, bin_lss, bin_leq, bin_gtr, bin_geq, bin_eqlb, bin_neqb, bin_eqlp, bin_eqlp0, bin_neqp, bin_neqp0, bin_eqls, bin_eqls0, un_not, un_neg, len_s, cap_s, ex_t, cv_i, callV_f, Option.bind_some, Option.map_some, Nat.zero_add, Nat.add_zero, Nat.reduceAdd, Nat.reduceMul, size_newB, size_setB, blk_newB_self, own_newB_self, wrA_b, own_setB_m, blk_setB_m, setB_setB, List.getElem?_toArray, List.getElem?_cons_zero, List.getElem?_cons_succ, List.length_cons, List.length_nil, List.all_cons, List.all_nil, isCell_int, isCell_bool, isCell_ptr, isCell_slice, isCell_func, Bool.and_true, Bool.and_self, and_self, if_true, List.size_toArray, and_true, true_and, Nat.reduceLeDiff, Nat.le_refl, Bool.not_true, Bool.not_false, Bool.true_and, Bool.false_and, Bool.and_false, Int.reduceBNe, Int.reduceBEq, Int.reduceLT, Int.reduceLE, decide_true, decide_false]
  refine find_ev h hu fun k H' he hk ha hb => ?_
  have h' := h.ext he (by simp) (by simp)
  try simp only [bnd_some, brV_t, brV_f, brG_t, brG_f, newE_u, pickE_t, pickE_f, nilV_p, faV_p, ldE_f, ldE_t, rdA_u, stE_p, cells_int, cells_bool, cells_ptr, cells_slice, cells_func, cells_agg, bin_add, bin_sub, bin_mul, bin_eql, bin_neq, bin_lss, bin_leq, bin_gtr, bin_geq, bin_eqlb, bin_neqb, bin_eqlp, bin_eqlp0, bin_neqp, bin_neqp0, bin_eqls, bin_eqls0, un_not, un_neg, len_s, cap_s, ex_t, cv_i, callV_f, Option.bind_some, Option.map_some, Nat.zero_add, Nat.add_zero, Nat.reduceAdd, Nat.reduceMul, size_newB, size_setB, blk_newB_self, own_newB_self, wrA_b, own_setB_m, blk_setB_m, setB_setB, List.getElem?_toArray, List.getElem?_cons_zero, List.getElem?_cons_succ, List.length_cons, List.length_nil, List.all_cons, List.all_nil, isCell_int, isCell_bool, isCell_ptr, isCell_slice, isCell_func, Bool.and_true, Bool.and_self, and_self, if_true, List.size_toArray, and_true, true_and, Nat.reduceLeDiff, Nat.le_refl, Bool.not_true, Bool.not_false, Bool.true_and, Bool.false_and, Bool.and_false, Int.reduceBNe, Int.reduceBEq, Int.reduceLT, Int.reduceLE, decide_true, decide_false, own_blk h'.log, logC_4]
  refine brV_i (fun hkl => ?_) (fun hkl => ?_)
  · refine hN H' he fun i hi hin => ?_
    have hkl' : (k : Int) = sl.length := by simpa using hkl
    have := ha i hi (by omega); omega
  · have hkl' : k < sl.length := by have : (k : Int) ≠ sl.length := by simpa using hkl
                                    omega
    refine h'.at hkl' fun o c hc h0 h6 hg ho => ?_
    try simp only [bnd_some, brV_t, brV_f, brG_t, brG_f, newE_u, pickE_t, pickE_f, nilV_p, faV_p, ldE_f, ldE_t, rdA_u, stE_p, cells_int, cells_bool, cells_ptr, cells_slice, cells_func, cells_agg, bin_add, bin_sub, bin_mul, bin_eql, bin_neq, bin_lss, bin_leq, bin_gtr, bin_geq, bin_eqlb, bin_neqb, bin_eqlp, bin_eqlp0, bin_neqp, bin_neqp0, bin_eqls, bin_eqls0, un_not, un_neg, len_s, cap_s, ex_t, cv_i, callV_f, Option.bind_some, Option.map_some, Nat.zero_add, Nat.add_zero, Nat.reduceAdd, Nat.reduceMul, size_newB, size_setB, blk_newB_self, own_newB_self, wrA_b, own_setB_m, blk_setB_m, setB_setB, List.getElem?_toArray, List.getElem?_cons_zero, List.getElem?_cons_succ, List.length_cons, List.length_nil, List.all_cons, List.all_nil, isCell_int, isCell_bool, isCell_ptr, isCell_slice, isCell_func, Bool.and_true, Bool.and_self, and_self, if_true, List.size_toArray, and_true, true_and, Nat.reduceLeDiff, Nat.le_refl, Bool.not_true, Bool.not_false, Bool.true_and, Bool.false_and, Bool.and_false, Int.reduceBNe, Int.reduceBEq, Int.reduceLT, Int.reduceLE, decide_true, decide_false, hc, h0, h6]
    refine brV_i (fun hn => ?_) (fun hn => ?_)
    · have hn' : sl[k].1.num = n := by simpa using hn
      refine brV_i (fun ht => ?_) (fun ht => ?_)
      · exact hS H' k hkl' o c he hn' ht hc hg ho
      · refine hN H' he fun i hi hin => ?_
        have : i = k := hu.unique hi hkl' (by omega)
        subst this; exact ht
    · refine hN H' he fun i hi hin => ?_
      exfalso
      have hn' : sl[k].1.num ≠ n := by simpa using hn
      rcases Nat.lt_or_ge i k with hik | hik
      · have := ha i hi hik; omega
      · have := hb k hkl' (Nat.le_refl _)
        rcases Nat.lt_or_ge k i with hki | hki
        · have := hu.lt hkl' hi hki; omega
        · have : i = k := by omega
          subst this; exact hn' hin

def opt (o : Option Pkt) : Value := .tuple #[pv (o.getD pkt0), .bool o.isSome]
/-- a local packet is written -/
theorem st_pkt {H H1 : Heap} {p q : Pkt} {t : TypeId} (he : Ext [] (newB H t (pktC p)) H1) : stE 6 (ptr H.size) (pv q) H1 = some (setB H1 H.size (pktC q)) := by
  have ho : own H1 H.size = some (pktC p) := he.own own_newB_self (by simp)
  simp only [stE_p, cells_agg, pktC_s, if_true]
  rw [wrA_u ho (by rw [pktC_l]; exact Nat.le_refl _) pktC_a, splice_pkt]
theorem st_pkt' {H H1 : Heap} {p q : Pkt} {t : TypeId} (he : Ext [] (newB H t (pktC p)) H1) : ldE true 6 (ptr H.size) (setB H1 H.size (pktC q)) = some (pv q) := by
  have ho : own H1 H.size = some (pktC p) := he.own own_newB_self (by simp)
  simp only [ldE_t, rdA_u, own_blk (own_setB_same ho), Option.bind_some, pktC_g, Option.map_some]
theorem ld_pkt {H H1 : Heap} {p : Pkt} {t : TypeId} (he : Ext [] (newB H t (pktC p)) H1) : ldE true 6 (ptr H.size) H1 = some (pv p) := by
  have ho : own H1 H.size = some (pktC p) := he.own own_newB_self (by simp)
  simp only [ldE_t, rdA_u, own_blk ho, Option.bind_some, pktC_g, Option.map_some]
theorem ext_pkt {H H1 : Heap} {p q : Pkt} {t : TypeId} (he : Ext [] (newB H t (pktC p)) H1) : Ext [] H (setB H1 H.size (pktC q)) :=
  (((Ext.refl _ _).newB t (pktC p)).trans he).setB _ _ (Or.inr (Nat.le_refl _))

theorem Oldest_ev {H : Heap} {b rb room : Nat} {top : Int} {L : List Pkt} {R : Value → Heap → Prop} (h : LogOf H b rb room top L)
    (hR : ∀ H', Ext [] H H' → R (opt L.head?) H') : EvF P N.sent_Log_Oldest #[ptr b] H R := by
  obtain ⟨cap, fr, sl, h⟩ := h
  refine z105_ev _ _ _ ?_
  simp only [z105_g11, z105_g12, z105_g13, z105_g14, sent_Log_Oldest]
  try simp only [ew, Nat.reduceAdd, Nat.reduceMul, Nat.reduceLeDiff, Int.reduceBNe, Int.reduceBEq, Int.reduceLT, Int.reduceLE, pkt0_C]
  have e0 : Ext [] H (newB H 40 (pktC pkt0)) := (Ext.refl _ _).newB _ _
  have h0 := h.ext e0 (by simp) (by simp)
  have er := Ext.refl [] (newB H 40 (pktC pkt0))
  have hroom := h.rep.hroom
  refine none_ev h0.rep.log (by omega) ?_
  try simp only [ew, Nat.reduceAdd, Nat.reduceMul, Nat.reduceLeDiff, Int.reduceBNe, Int.reduceBEq, Int.reduceLT, Int.reduceLE, ldE_f, own_blk h0.rep.log, logC_4]
  refine brV_i (fun hl => ?_) (fun hl => ?_)
  · have hl' : sl = [] := by have : (sl.length : Int) = 0 := by simpa using hl
                             exact List.length_eq_zero_iff.1 (by omega)
    try simp only [ew, Nat.reduceAdd, Nat.reduceMul, Nat.reduceLeDiff, Int.reduceBNe, Int.reduceBEq, Int.reduceLT, Int.reduceLE, ld_pkt er, st_pkt er, st_pkt' er]
    have := hR _ (ext_pkt (q := pkt0) er)
    rw [← h.liv, hl'] at this; exact this
  · have hl' : 0 < sl.length := by have : (sl.length : Int) ≠ 0 := by simpa using hl
                                   omega
    have h0at := fun R => h0.rep.at (i := 0) hl' (R := R)
    refine h0at _ fun o c hc _ _ hg ho => ?_
    have hl : ldE true 6 (.pointer (some ⟨rb, o, none⟩)) (newB H 40 (pktC pkt0)) = some (pv sl[0].1) := by simp only [ldE_t, rdA_u, hc, Option.bind_some, hg, Option.map_some]
    try simp only [ew, Nat.reduceAdd, Nat.reduceMul, Nat.reduceLeDiff, Int.reduceBNe, Int.reduceBEq, Int.reduceLT, Int.reduceLE, hl, st_pkt er, st_pkt' er]
    have := hR _ (ext_pkt (q := sl[0].1) er)
    have hh : L.head? = some sl[0].1 := by
      rw [← h.liv]
      cases sl with
      | nil => simp at hl'
      | cons s sl => have := h.head s (by simp); simp [live, this]
    rw [hh] at this; exact this
theorem Last_ev {H : Heap} {b rb room : Nat} {top : Int} {L : List Pkt} {R : Value → Heap → Prop} (h : LogOf H b rb room top L)
    (hR : R (iv top) H) : EvF P N.sent_Log_Last #[ptr b] H R := by
  obtain ⟨cap, fr, sl, h⟩ := h
  have hroom := h.rep.hroom
  refine z56_ev _ _ _ ?_
  simp only [z56_g11, z56_g12, z56_g13, z56_g14, sent_Log_Last]
  try simp only [bnd_some, brV_t, brV_f, brG_t, brG_f, newE_u, pickE_t, pickE_f, nilV_p, faV_p, ldE_f, ldE_t, rdA_u, stE_p, cells_int, cells_bool, cells_ptr, cells_slice, cells_func, cells_agg, bin_add, bin_sub, bin_mul, bin_eql, bin_neq, bin_lss, bin_leq, bin_gtr, bin_geq, bin_eqlb, bin_neqb, bin_eqlp, bin_eqlp0, bin_neqp, bin_neqp0, bin_eqls, bin_eqls0, un_not, un_neg, len_s, cap_s, ex_t, cv_i, callV_f, Option.bind_some, Option.map_some, Nat.zero_add, Nat.add_zero, Nat.reduceAdd, Nat.reduceMul, size_newB, size_setB, blk_newB_self, own_newB_self, wrA_b, own_setB_m, blk_setB_m, setB_setB, List.getElem?_toArray, List.getElem?_cons_zero, List.getElem?_cons_succ, List.length_cons, List.length_nil, List.all_cons, List.all_nil, isCell_int, isCell_bool, isCell_ptr, isCell_slice, isCell_func, Bool.and_true, Bool.and_self, and_self, if_true, List.size_toArray, and_true, true_and, Nat.reduceLeDiff, Nat.le_refl, Bool.not_true, Bool.not_false, Bool.true_and, Bool.false_and, Bool.and_false, Int.reduceBNe, Int.reduceBEq, Int.reduceLT, Int.reduceLE, decide_true, decide_false]
  refine none_ev h.rep.log (by omega) ?_
  try simp only [bnd_some, brV_t, brV_f, brG_t, brG_f, newE_u, pickE_t, pickE_f, nilV_p, faV_p, ldE_f, ldE_t, rdA_u, stE_p, cells_int, cells_bool, cells_ptr, cells_slice, cells_func, cells_agg, bin_add, bin_sub, bin_mul, bin_eql, bin_neq, bin_lss, bin_leq, bin_gtr, bin_geq, bin_eqlb, bin_neqb, bin_eqlp, bin_eqlp0, bin_neqp, bin_neqp0, bin_eqls, bin_eqls0, un_not, un_neg, len_s, cap_s, ex_t, cv_i, callV_f, Option.bind_some, Option.map_some, Nat.zero_add, Nat.add_zero, Nat.reduceAdd, Nat.reduceMul, size_newB, size_setB, blk_newB_self, own_newB_self, wrA_b, own_setB_m, blk_setB_m, setB_setB, List.getElem?_toArray, List.getElem?_cons_zero, List.getElem?_cons_succ, List.length_cons, List.length_nil, List.all_cons, List.all_nil, isCell_int, isCell_bool, isCell_ptr, isCell_slice, isCell_func, Bool.and_true, Bool.and_self, and_self, if_true, List.size_toArray, and_true, true_and, Nat.reduceLeDiff, Nat.le_refl, Bool.not_true, Bool.not_false, Bool.true_and, Bool.false_and, Bool.and_false, Int.reduceBNe, Int.reduceBEq, Int.reduceLT, Int.reduceLE, decide_true, decide_false, own_blk h.rep.log, logC_1]
  exact hR
theorem Flight_ev {H : Heap} {b rb room : Nat} {top : Int} {L : List Pkt} {R : Value → Heap → Prop} (h : LogOf H b rb room top L)
    (hR : ∀ H', Ext [] H H' → R (iv (flight L)) H') : EvF P N.sent_Log_Flight #[ptr b] H R := by
  obtain ⟨cap, fr, sl, h⟩ := h
  have hroom := h.rep.hroom
  refine z65_ev _ _ _ ?_
  have e0 : Ext [] H (newB H 75 #[ptr b]) := (Ext.refl _ _).newB _ _
  have h0 := h.rep.ext e0 (by simp) (by simp)
  simp only [z65_g5, z65_g6, sent_Log_Flight]
  try simp only [bnd_some, brV_t, brV_f, brG_t, brG_f, newE_u, pickE_t, pickE_f, nilV_p, faV_p, ldE_f, ldE_t, rdA_u, stE_p, cells_int, cells_bool, cells_ptr, cells_slice, cells_func, cells_agg, bin_add, bin_sub, bin_mul, bin_eql, bin_neq, bin_lss, bin_leq, bin_gtr, bin_geq, bin_eqlb, bin_neqb, bin_eqlp, bin_eqlp0, bin_neqp, bin_neqp0, bin_eqls, bin_eqls0, un_not, un_neg, len_s, cap_s, ex_t, cv_i, callV_f, Option.bind_some, Option.map_some, Nat.zero_add, Nat.add_zero, Nat.reduceAdd, Nat.reduceMul, size_newB, size_setB, blk_newB_self, own_newB_self, wrA_b, own_setB_m, blk_setB_m, setB_setB, List.getElem?_toArray, List.getElem?_cons_zero, List.getElem?_cons_succ, List.length_cons, List.length_nil, List.all_cons, List.all_nil, isCell_int, isCell_bool, isCell_ptr, isCell_slice, isCell_func, Bool.and_true, Bool.and_self, and_self, if_true, List.size_toArray, and_true, true_and, Nat.reduceLeDiff, Nat.le_refl, Bool.not_true, Bool.not_false, Bool.true_and, Bool.false_and, Bool.and_false, Int.reduceBNe, Int.reduceBEq, Int.reduceLT, Int.reduceLE, decide_true, decide_false]
  refine z118_ev _ _ _ _ ?_
  simp only [z118_g11, z118_g12, z118_g13, z118_g14, sent_Log_total]
  try simp only [bnd_some, brV_t, brV_f, brG_t, brG_f, newE_u, pickE_t, pickE_f, nilV_p, faV_p, ldE_f, ldE_t, rdA_u, stE_p, cells_int, cells_bool, cells_ptr, cells_slice, cells_func, cells_agg, bin_add, bin_sub, bin_mul, bin_eql, bin_neq, bin_lss, bin_leq, bin_gtr, bin_geq, bin_eqlb, bin_neqb, bin_eqlp, bin_eqlp0, bin_neqp, bin_neqp0, bin_eqls, bin_eqls0, un_not, un_neg, len_s, cap_s, ex_t, cv_i, callV_f, Option.bind_some, Option.map_some, Nat.zero_add, Nat.add_zero, Nat.reduceAdd, Nat.reduceMul, size_newB, size_setB, blk_newB_self, own_newB_self, wrA_b, own_setB_m, blk_setB_m, setB_setB, List.getElem?_toArray, List.getElem?_cons_zero, List.getElem?_cons_succ, List.length_cons, List.length_nil, List.all_cons, List.all_nil, isCell_int, isCell_bool, isCell_ptr, isCell_slice, isCell_func, Bool.and_true, Bool.and_self, and_self, if_true, List.size_toArray, and_true, true_and, Nat.reduceLeDiff, Nat.le_refl, Bool.not_true, Bool.not_false, Bool.true_and, Bool.false_and, Bool.and_false, Int.reduceBNe, Int.reduceBEq, Int.reduceLT, Int.reduceLE, decide_true, decide_false]
  refine none_ev h0.log (by omega) ?_
  try simp only [bnd_some, brV_t, brV_f, brG_t, brG_f, newE_u, pickE_t, pickE_f, nilV_p, faV_p, ldE_f, ldE_t, rdA_u, stE_p, cells_int, cells_bool, cells_ptr, cells_slice, cells_func, cells_agg, bin_add, bin_sub, bin_mul, bin_eql, bin_neq, bin_lss, bin_leq, bin_gtr, bin_geq, bin_eqlb, bin_neqb, bin_eqlp, bin_eqlp0, bin_neqp, bin_neqp0, bin_eqls, bin_eqls0, un_not, un_neg, len_s, cap_s, ex_t, cv_i, callV_f, Option.bind_some, Option.map_some, Nat.zero_add, Nat.add_zero, Nat.reduceAdd, Nat.reduceMul, size_newB, size_setB, blk_newB_self, own_newB_self, wrA_b, own_setB_m, blk_setB_m, setB_setB, List.getElem?_toArray, List.getElem?_cons_zero, List.getElem?_cons_succ, List.length_cons, List.length_nil, List.all_cons, List.all_nil, isCell_int, isCell_bool, isCell_ptr, isCell_slice, isCell_func, Bool.and_true, Bool.and_self, and_self, if_true, List.size_toArray, and_true, true_and, Nat.reduceLeDiff, Nat.le_refl, Bool.not_true, Bool.not_false, Bool.true_and, Bool.false_and, Bool.and_false, Int.reduceBNe, Int.reduceBEq, Int.reduceLT, Int.reduceLE, decide_true, decide_false, Array.toList_empty, List.nil_append, List.append_nil]
  refine z119_ev _ _ _ ?_
  simp only [z119_g5, z119_g6, sent_Log_Flight_1]
  try simp only [bnd_some, brV_t, brV_f, brG_t, brG_f, newE_u, pickE_t, pickE_f, nilV_p, faV_p, ldE_f, ldE_t, rdA_u, stE_p, cells_int, cells_bool, cells_ptr, cells_slice, cells_func, cells_agg, bin_add, bin_sub, bin_mul, bin_eql, bin_neq, bin_lss, bin_leq, bin_gtr, bin_geq, bin_eqlb, bin_neqb, bin_eqlp, bin_eqlp0, bin_neqp, bin_neqp0, bin_eqls, bin_eqls0, un_not, un_neg, len_s, cap_s, ex_t, cv_i, callV_f, Option.bind_some, Option.map_some, Nat.zero_add, Nat.add_zero, Nat.reduceAdd, Nat.reduceMul, size_newB, size_setB, blk_newB_self, own_newB_self, wrA_b, own_setB_m, blk_setB_m, setB_setB, List.getElem?_toArray, List.getElem?_cons_zero, List.getElem?_cons_succ, List.length_cons, List.length_nil, List.all_cons, List.all_nil, isCell_int, isCell_bool, isCell_ptr, isCell_slice, isCell_func, Bool.and_true, Bool.and_self, and_self, if_true, List.size_toArray, and_true, true_and, Nat.reduceLeDiff, Nat.le_refl, Bool.not_true, Bool.not_false, Bool.true_and, Bool.false_and, Bool.and_false, Int.reduceBNe, Int.reduceBEq, Int.reduceLT, Int.reduceLE, decide_true, decide_false, own_blk h0.log, logC_6]
  exact hR _ e0
theorem Eliciting_ev {H : Heap} {b rb room : Nat} {top : Int} {L : List Pkt} {R : Value → Heap → Prop} (h : LogOf H b rb room top L)
    (hR : ∀ H', Ext [] H H' → R (iv (elic L)) H') : EvF P N.sent_Log_Eliciting #[ptr b] H R := by
  obtain ⟨cap, fr, sl, h⟩ := h
  have hroom := h.rep.hroom
  refine z67_ev _ _ _ ?_
  have e0 : Ext [] H (newB H 75 #[ptr b]) := (Ext.refl _ _).newB _ _
  have h0 := h.rep.ext e0 (by simp) (by simp)
  simp only [z67_g5, z67_g6, sent_Log_Eliciting]
  try simp only [bnd_some, brV_t, brV_f, brG_t, brG_f, newE_u, pickE_t, pickE_f, nilV_p, faV_p, ldE_f, ldE_t, rdA_u, stE_p, cells_int, cells_bool, cells_ptr, cells_slice, cells_func, cells_agg, bin_add, bin_sub, bin_mul, bin_eql, bin_neq, bin_lss, bin_leq, bin_gtr, bin_geq, bin_eqlb, bin_neqb, bin_eqlp, bin_eqlp0, bin_neqp, bin_neqp0, bin_eqls, bin_eqls0, un_not, un_neg, len_s, cap_s, ex_t, cv_i, callV_f, Option.bind_some, Option.map_some, Nat.zero_add, Nat.add_zero, Nat.reduceAdd, Nat.reduceMul, size_newB, size_setB, blk_newB_self, own_newB_self, wrA_b, own_setB_m, blk_setB_m, setB_setB, List.getElem?_toArray, List.getElem?_cons_zero, List.getElem?_cons_succ, List.length_cons, List.length_nil, List.all_cons, List.all_nil, isCell_int, isCell_bool, isCell_ptr, isCell_slice, isCell_func, Bool.and_true, Bool.and_self, and_self, if_true, List.size_toArray, and_true, true_and, Nat.reduceLeDiff, Nat.le_refl, Bool.not_true, Bool.not_false, Bool.true_and, Bool.false_and, Bool.and_false, Int.reduceBNe, Int.reduceBEq, Int.reduceLT, Int.reduceLE, decide_true, decide_false]
  refine z118_ev _ _ _ _ ?_
  simp only [z118_g11, z118_g12, z118_g13, z118_g14, sent_Log_total]
  try simp only [bnd_some, brV_t, brV_f, brG_t, brG_f, newE_u, pickE_t, pickE_f, nilV_p, faV_p, ldE_f, ldE_t, rdA_u, stE_p, cells_int, cells_bool, cells_ptr, cells_slice, cells_func, cells_agg, bin_add, bin_sub, bin_mul, bin_eql, bin_neq, bin_lss, bin_leq, bin_gtr, bin_geq, bin_eqlb, bin_neqb, bin_eqlp, bin_eqlp0, bin_neqp, bin_neqp0, bin_eqls, bin_eqls0, un_not, un_neg, len_s, cap_s, ex_t, cv_i, callV_f, Option.bind_some, Option.map_some, Nat.zero_add, Nat.add_zero, Nat.reduceAdd, Nat.reduceMul, size_newB, size_setB, blk_newB_self, own_newB_self, wrA_b, own_setB_m, blk_setB_m, setB_setB, List.getElem?_toArray, List.getElem?_cons_zero, List.getElem?_cons_succ, List.length_cons, List.length_nil, List.all_cons, List.all_nil, isCell_int, isCell_bool, isCell_ptr, isCell_slice, isCell_func, Bool.and_true, Bool.and_self, and_self, if_true, List.size_toArray, and_true, true_and, Nat.reduceLeDiff, Nat.le_refl, Bool.not_true, Bool.not_false, Bool.true_and, Bool.false_and, Bool.and_false, Int.reduceBNe, Int.reduceBEq, Int.reduceLT, Int.reduceLE, decide_true, decide_false]
  refine none_ev h0.log (by omega) ?_
  try simp only [bnd_some, brV_t, brV_f, brG_t, brG_f, newE_u, pickE_t, pickE_f, nilV_p, faV_p, ldE_f, ldE_t, rdA_u, stE_p, cells_int, cells_bool, cells_ptr, cells_slice, cells_func, cells_agg, bin_add, bin_sub, bin_mul, bin_eql, bin_neq, bin_lss, bin_leq, bin_gtr, bin_geq, bin_eqlb, bin_neqb, bin_eqlp, bin_eqlp0, bin_neqp, bin_neqp0, bin_eqls, bin_eqls0, un_not, un_neg, len_s, cap_s, ex_t, cv_i, callV_f, Option.bind_some, Option.map_some, Nat.zero_add, Nat.add_zero, Nat.reduceAdd, Nat.reduceMul, size_newB, size_setB, blk_newB_self, own_newB_self, wrA_b, own_setB_m, blk_setB_m, setB_setB, List.getElem?_toArray, List.getElem?_cons_zero, List.getElem?_cons_succ, List.length_cons, List.length_nil, List.all_cons, List.all_nil, isCell_int, isCell_bool, isCell_ptr, isCell_slice, isCell_func, Bool.and_true, Bool.and_self, and_self, if_true, List.size_toArray, and_true, true_and, Nat.reduceLeDiff, Nat.le_refl, Bool.not_true, Bool.not_false, Bool.true_and, Bool.false_and, Bool.and_false, Int.reduceBNe, Int.reduceBEq, Int.reduceLT, Int.reduceLE, decide_true, decide_false, Array.toList_empty, List.nil_append, List.append_nil]
  refine z120_ev _ _ _ ?_
  simp only [z120_g5, z120_g6, sent_Log_Eliciting_1]
  try simp only [bnd_some, brV_t, brV_f, brG_t, brG_f, newE_u, pickE_t, pickE_f, nilV_p, faV_p, ldE_f, ldE_t, rdA_u, stE_p, cells_int, cells_bool, cells_ptr, cells_slice, cells_func, cells_agg, bin_add, bin_sub, bin_mul, bin_eql, bin_neq, bin_lss, bin_leq, bin_gtr, bin_geq, bin_eqlb, bin_neqb, bin_eqlp, bin_eqlp0, bin_neqp, bin_neqp0, bin_eqls, bin_eqls0, un_not, un_neg, len_s, cap_s, ex_t, cv_i, callV_f, Option.bind_some, Option.map_some, Nat.zero_add, Nat.add_zero, Nat.reduceAdd, Nat.reduceMul, size_newB, size_setB, blk_newB_self, own_newB_self, wrA_b, own_setB_m, blk_setB_m, setB_setB, List.getElem?_toArray, List.getElem?_cons_zero, List.getElem?_cons_succ, List.length_cons, List.length_nil, List.all_cons, List.all_nil, isCell_int, isCell_bool, isCell_ptr, isCell_slice, isCell_func, Bool.and_true, Bool.and_self, and_self, if_true, List.size_toArray, and_true, true_and, Nat.reduceLeDiff, Nat.le_refl, Bool.not_true, Bool.not_false, Bool.true_and, Bool.false_and, Bool.and_false, Int.reduceBNe, Int.reduceBEq, Int.reduceLT, Int.reduceLE, decide_true, decide_false, own_blk h0.log, logC_7]
  exact hR _ e0
theorem Clear_ev {H : Heap} {b rb room : Nat} {top : Int} {L : List Pkt} {R : Value → Heap → Prop} (h : LogOf H b rb room top L)
    (hR : ∀ H', Ext [b] H H' → LogOf H' b rb room top [] → R (.tuple #[]) H') : EvF P N.sent_Log_Clear #[ptr b] H R := by
  obtain ⟨cap, fr, sl, h⟩ := h
  have hroom := h.rep.hroom
  refine z68_ev _ _ _ ?_
  simp only [z68_g6, z68_g7, sent_Log_Clear]
  try simp only [bnd_some, brV_t, brV_f, brG_t, brG_f, newE_u, pickE_t, pickE_f, nilV_p, faV_p, ldE_f, ldE_t, rdA_u, stE_p, cells_int, cells_bool, cells_ptr, cells_slice, cells_func, cells_agg, bin_add, bin_sub, bin_mul, bin_eql, bin_neq, bin_lss, bin_leq, bin_gtr, bin_geq, bin_eqlb, bin_neqb, bin_eqlp, bin_eqlp0, bin_neqp, bin_neqp0, bin_eqls, bin_eqls0, un_not, un_neg, len_s, cap_s, ex_t, cv_i, callV_f, Option.bind_some, Option.map_some, Nat.zero_add, Nat.add_zero, Nat.reduceAdd, Nat.reduceMul, size_newB, size_setB, blk_newB_self, own_newB_self, wrA_b, own_setB_m, blk_setB_m, setB_setB, List.getElem?_toArray, List.getElem?_cons_zero, List.getElem?_cons_succ, List.length_cons, List.length_nil, List.all_cons, List.all_nil, isCell_int, isCell_bool, isCell_ptr, isCell_slice, isCell_func, Bool.and_true, Bool.and_self, and_self, if_true, List.size_toArray, and_true, true_and, Nat.reduceLeDiff, Nat.le_refl, Bool.not_true, Bool.not_false, Bool.true_and, Bool.false_and, Bool.and_false, Int.reduceBNe, Int.reduceBEq, Int.reduceLT, Int.reduceLE, decide_true, decide_false]
  refine none_ev h.rep.log (by omega) ?_
  try simp only [bnd_some, brV_t, brV_f, brG_t, brG_f, newE_u, pickE_t, pickE_f, nilV_p, faV_p, ldE_f, ldE_t, rdA_u, stE_p, cells_int, cells_bool, cells_ptr, cells_slice, cells_func, cells_agg, bin_add, bin_sub, bin_mul, bin_eql, bin_neq, bin_lss, bin_leq, bin_gtr, bin_geq, bin_eqlb, bin_neqb, bin_eqlp, bin_eqlp0, bin_neqp, bin_neqp0, bin_eqls, bin_eqls0, un_not, un_neg, len_s, cap_s, ex_t, cv_i, callV_f, Option.bind_some, Option.map_some, Nat.zero_add, Nat.add_zero, Nat.reduceAdd, Nat.reduceMul, size_newB, size_setB, blk_newB_self, own_newB_self, wrA_b, own_setB_m, blk_setB_m, setB_setB, List.getElem?_toArray, List.getElem?_cons_zero, List.getElem?_cons_succ, List.length_cons, List.length_nil, List.all_cons, List.all_nil, isCell_int, isCell_bool, isCell_ptr, isCell_slice, isCell_func, Bool.and_true, Bool.and_self, and_self, if_true, List.size_toArray, and_true, true_and, Nat.reduceLeDiff, Nat.le_refl, Bool.not_true, Bool.not_false, Bool.true_and, Bool.false_and, Bool.and_false, Int.reduceBNe, Int.reduceBEq, Int.reduceLT, Int.reduceLE, decide_true, decide_false, h.rep.log, logC_s, logC_w3, logC_w4, logC_w5, logC_w6, logC_w7]
  refine hR _ ((Ext.refl _ _).setB _ _ (Or.inl (by simp))) ⟨cap, 0, [], ?_⟩
  obtain ⟨c, f, hc, hr, hcap, hf⟩ := h.rep.ring
  refine ⟨⟨own_setB_same h.rep.log, h.rep.ne, hroom, by omega, by simp, c, f, ?_, hr, hcap, by simp⟩, by simp [Up], rfl, by simp, h.htop, by simp, by simp⟩
  rw [own_setB_ne (Ne.symm h.rep.ne)]; exact hc
end Go.Hc
set_option linter.unusedSimpArgs false
set_option linter.unusedVariables false
namespace Go.Hc
open Go

theorem live_cons {s : Pkt × Bool} {sl : List (Pkt × Bool)} : live (s :: sl) = if s.2 then s.1 :: live sl else live sl := by
  unfold live; cases h : s.2 <;> simp [h]
theorem live_app {a b : List (Pkt × Bool)} : live (a ++ b) = live a ++ live b := by simp [live]
theorem live_set {n : Int} : ∀ {sl : List (Pkt × Bool)} {i : Nat} (_ : Up sl) (hi : i < sl.length) (_ : sl[i].1.num = n), live (sl.set i (sl[i].1, false)) = (live sl).filter (fun p => p.num != n)
  | [], _, _, hi, _ => by simp at hi
  | s :: sl, 0, hu, _, hn => by
    have hn' : s.1.num = n := hn
    have hk : (live sl).filter (fun p => p.num != n) = live sl := by
      rw [List.filter_eq_self]
      intro p hp
      have := (List.pairwise_cons.1 hu).1 (p, true) (mem_live.1 hp)
      have h2 : p.num ≠ n := by simp only at this; omega
      simpa using h2
    simp only [List.set_cons_zero, List.getElem_cons_zero, live_cons]
    cases hs : s.2 <;> simp [hn', hk]
  | s :: sl, i + 1, hu, hi, hn => by
    have hi' : i < sl.length := by simpa using hi
    have hn' : sl[i].1.num = n := hn
    have ih := live_set (List.pairwise_cons.1 hu).2 hi' hn'
    have h1 := (List.pairwise_cons.1 hu).1 _ (List.getElem_mem hi')
    have h2 : s.1.num ≠ n := by omega
    simp only [List.set_cons_succ, List.getElem_cons_succ, live_cons, ih]
    cases hs : s.2 <;> simp [h2]
theorem sums_filter {n : Int} : ∀ {L : List Pkt} {p : Pkt} (_ : RiseL L) (_ : p ∈ L) (_ : p.num = n),
    flight (L.filter fun q => q.num != n) = (if p.fl then flight L + -1 * p.size else flight L) ∧ elic (L.filter fun q => q.num != n) = (if p.fl && p.el then elic L + -1 else elic L) ∧
      ((L.filter fun q => q.num != n).length : Int) = L.length + -1
  | q :: L, p, hr, hp, hn => by
    rcases List.mem_cons.1 hp with rfl | hp
    · have hk : L.filter (fun q => q.num != n) = L := by
        rw [List.filter_eq_self]
        intro q hq
        have := (List.pairwise_cons.1 hr).1 q hq
        have h2 : q.num ≠ n := by omega
        simpa using h2
      have : (p.num != n) = false := by simp [hn]
      simp only [List.filter_cons, this, hk, flight, elic, List.length_cons]
      refine ⟨?_, ?_, ?_⟩
      · cases p.fl <;> simp <;> omega
      · cases p.fl <;> cases p.el <;> simp <;> omega
      · simp; omega
    · obtain ⟨a, b, c⟩ := sums_filter (List.pairwise_cons.1 hr).2 hp hn
      have := (List.pairwise_cons.1 hr).1 p hp
      have h2 : q.num ≠ n := by omega
      have : (q.num != n) = true := by simpa using h2
      simp only [List.filter_cons, this, if_true, flight, elic, List.length_cons, a, b]
      refine ⟨?_, ?_, ?_⟩
      · cases p.fl <;> simp <;> omega
      · cases p.fl <;> cases p.el <;> simp <;> omega
      · have := c; omega
theorem flight_le : ∀ {L : List Pkt} (_ : ∀ p ∈ L, May p), 0 ≤ flight L ∧ flight L ≤ 65535 * L.length
  | [], _ => by simp [flight]
  | p :: L, h => by
    obtain ⟨a, b⟩ := flight_le (L := L) fun q hq => h q (by simp [hq])
    have := h p (by simp)
    obtain ⟨_, _, _, _, h1, h2⟩ := this
    simp only [flight, List.length_cons]
    cases p.fl <;> simp <;> omega
theorem elic_le : ∀ {L : List Pkt}, 0 ≤ elic L ∧ elic L ≤ L.length
  | [] => by simp [elic]
  | p :: L => by
    obtain ⟨a, b⟩ := elic_le (L := L)
    simp only [elic, List.length_cons]
    cases p.fl <;> cases p.el <;> simp <;> omega
theorem flight_app {L M : List Pkt} : flight (L ++ M) = flight L + flight M := by
  induction L with
  | nil => simp [flight]
  | cons p L ih => simp only [List.cons_append, flight, ih]; omega
theorem elic_app {L M : List Pkt} : elic (L ++ M) = elic L + elic M := by
  induction L with
  | nil => simp [elic]
  | cons p L ih => simp only [List.cons_append, elic, ih]; omega
theorem LogS.mayL {H : Heap} {b rb cap room fr : Nat} {top : Int} {sl : List (Pkt × Bool)} {L : List Pkt} (h : LogS H b rb cap room top fr sl L) : ∀ p ∈ L, May p ∧ p.num ≤ top := by
  intro p hp; rw [← h.liv] at hp; exact h.may _ (mem_live.1 hp)

theorem splice_slot {p : Pkt} {t x : Bool} : splice (slotC (p, t)) 6 [.bool x] = slotC (p, x) := rfl
/-- The log after a slot is emptied. -/
theorem LogR.drop {H : Heap} {b rb cap room fr : Nat} {top ma fl el : Int} {sl : List (Pkt × Bool)} (h : LogR H b rb cap room top fr sl ma fl el) {i : Nat} (hi : i < sl.length) {c : Array Value} (hc : blk H rb = some c) :
    own H rb = some c ∧ (fr + i) % (2 * room) * 7 + 6 < c.size ∧ LogR (setB H rb (splice c ((fr + i) % (2 * room) * 7 + 6) [.bool false])) b rb cap room top fr (sl.set i (sl[i].1, false)) ma fl el := by
  obtain ⟨c', f, hc', hr, hcap, hf⟩ := h.ring
  have : c' = c := by have := own_blk hc'; rw [hc] at this; simpa using this.symm
  subst this
  have h1 := h.hroom
  have hlt : (fr + i) % (2 * room) < cap := Nat.lt_of_lt_of_le (Nat.mod_lt _ (by omega)) hcap
  have hrl := row_lt (sz := 7) hlt
  have hsz := hr.size
  refine ⟨hc', by omega, ?_⟩
  refine ⟨by rw [own_setB_ne h.ne, List.length_set]; exact h.log, h.ne, h.hroom, h.hfr, by rw [List.length_set]; exact h.hlen, _, _, own_setB_same hc', hr.setC (i := (fr + i) % (2 * room)) (o := 6) (l := [.bool false]) hlt (by simp), hcap, fun j hj => ?_⟩
  rw [List.length_set] at hj
  have h3 := h.hlen
  have h4 := h.hfr
  by_cases hij : i = j
  · subst hij; simp only [if_true, hf i hi, List.getElem_set_self]; exact splice_slot (t := sl[i].2)
  · have : (fr + j) % (2 * room) ≠ (fr + i) % (2 * room) := by
      intro e
      have e1 := Nat.mod_lt (fr + i) (show 0 < 2 * room by omega)
      rcases Nat.lt_or_ge (fr + i) (2 * room) with h5 | h5 <;> rcases Nat.lt_or_ge (fr + j) (2 * room) with h6 | h6
      · rw [Nat.mod_eq_of_lt h5, Nat.mod_eq_of_lt h6] at e; omega
      · rw [Nat.mod_eq_of_lt h5, Nat.mod_eq_sub_mod h6, Nat.mod_eq_of_lt (by omega)] at e; omega
      · rw [Nat.mod_eq_of_lt h6, Nat.mod_eq_sub_mod h5, Nat.mod_eq_of_lt (by omega)] at e; omega
      · rw [Nat.mod_eq_sub_mod h5, Nat.mod_eq_sub_mod h6, Nat.mod_eq_of_lt (a := fr + j - 2 * room) (by omega), Nat.mod_eq_of_lt (by omega)] at e; omega
    simp only [this, if_false, List.getElem_set_ne hij]; exact hf j hj

theorem ld_ptr {H : Heap} {b o : Nat} {c : Array Value} {v : Value} (hc : blk H b = some c) (hv : c[o]? = some v) : ldE false 1 (.pointer (some ⟨b, o, none⟩)) H = some v := by
  simp only [ldE_f, hc, Option.bind_some, hv]
theorem st_ptr {H : Heap} {b o : Nat} {c : Array Value} {v : Value} (hc : own H b = some c) (ho : o < c.size) (hv : v.cells = #[v]) (hv' : isCell v = true) : stE 1 (.pointer (some ⟨b, o, none⟩)) v H = some (setB H b (splice c o [v])) := by
  simp only [stE_p, hv, List.size_toArray, List.length_cons, List.length_nil, if_true]
  rw [wrA_u hc (by simp; omega) (by simp [hv'])]
theorem bin_addw {a b : Int} {m : EqM} (h : -9223372036854775808 ≤ a + b ∧ a + b ≤ 9223372036854775807) : binV m .add (iv a) (iv b) = some (iv (a + b)) := by rw [bin_add, wrap_in h]
theorem bin_subw {a b : Int} {m : EqM} (h : -9223372036854775808 ≤ a - b ∧ a - b ≤ 9223372036854775807) : binV m .sub (iv a) (iv b) = some (iv (a - b)) := by rw [bin_sub, wrap_in h]

theorem Drop_ev {H : Heap} {b rb room : Nat} {top : Int} {L : List Pkt} {n : Int} {R : Value → Heap → Prop} (h : LogOf H b rb room top L)
    (hR : ∀ H', Ext [b, rb] H H' → LogOf H' b rb room top (L.filter fun p => p.num != n) → R (opt (L.find? fun p => p.num == n)) H') : EvF P N.sent_Log_Drop #[ptr b, iv n] H R := by
  have hlt := h.lt
  obtain ⟨cap, fr, sl, h⟩ := h
  refine z98_ev _ _ _ _ ?_
  simp only [z98_g31, z98_g32, z98_g33, z98_g34, z98_g35, z98_g36, z98_g37, z98_g39, z98_g40, z98_g41, z98_g42, z98_s38, z98_l47, sent_Log_Drop]
  try simp only [ew, Nat.reduceAdd, Nat.reduceMul, Nat.reduceLeDiff, Int.reduceBNe, Int.reduceBEq, Int.reduceLT, Int.reduceLE, pkt0_C]
  have e0 : Ext [] H (newB H 40 (pktC pkt0)) := (Ext.refl _ _).newB _ _
  have h0 := h.ext e0 (by simp) (by simp)
  have hroom := h.rep.hroom
  refine slot_ev h0.rep h0.up (fun H' he hn => ?_) (fun H' i hi o c he hn ht hc hg ho => ?_)
  · try simp only [ew, Nat.reduceAdd, Nat.reduceMul, Nat.reduceLeDiff, Int.reduceBNe, Int.reduceBEq, Int.reduceLT, Int.reduceLE, Option.isNone_none, ld_pkt he, st_pkt he, st_pkt' he]
    have hfn := find_live_none hn
    rw [h.liv] at hfn
    have hk : L.filter (fun p => p.num != n) = L := by
      rw [List.filter_eq_self]; intro p hp
      have := List.find?_eq_none.1 hfn p hp
      simpa using this
    have := hR _ ((ext_pkt (q := pkt0) he).mono (by simp)) (by
      rw [hk]; exact ⟨cap, fr, sl, h.ext (ext_pkt (q := pkt0) he) (by simp) (by simp)⟩)
    rw [hfn] at this; exact this
  · have h' := h0.ext he (by simp) (by simp)
    obtain ⟨hcw, hsz, hrep⟩ := h'.rep.drop hi hc
    rw [← ho] at hsz hrep
    have hst : stE 1 (.pointer (some ⟨rb, o + 6, none⟩)) (.bool false) H' = some (setB H' rb (splice c (o + 6) [.bool false])) := st_ptr hcw hsz rfl rfl
    have hmx := h'.may _ (List.getElem_mem hi)
    have hfl := flight_le (L := L) fun p hp => (h.mayL p hp).1
    have hel := elic_le (L := L)
    have hfew := h.few
    -- the packet is still to be read
    have hg2 : ldE true 6 (.pointer (some ⟨rb, o, none⟩)) (setB H' rb (splice c (o + 6) [.bool false])) = some (pv sl[i].1) := by
      obtain ⟨c2, f2, hc2, hr2, hcap2, hf2⟩ := hrep.ring
      have hlt2 : (fr + i) % (2 * room) < cap := Nat.lt_of_lt_of_le (Nat.mod_lt _ (by omega)) hcap2
      have := hr2.part (o := 0) (m := 6) hlt2 (by omega)
      rw [hf2 i (by rw [List.length_set]; exact hi), List.getElem_set_self, Nat.add_zero, ← ho] at this
      simp only [ldE_t, rdA_u, own_blk hc2, Option.bind_some, this, Option.map_some]; rfl
    try simp only [ew, Nat.reduceAdd, Nat.reduceMul, Nat.reduceLeDiff, Int.reduceBNe, Int.reduceBEq, Int.reduceLT, Int.reduceLE, hst, hg2]
    have hLen : (L.length : Int) ≤ 256 := by omega
    refine less_ev hrep.log (by omega) (by omega) (by omega) (by have := hmx.1; unfold May at this; omega) fun H2 he2 ho2 hx2 => ?_
    have hmem : sl[i].1 ∈ L := by rw [← h.liv]; exact mem_live.2 (by rw [← ht]; exact List.getElem_mem hi)
    have hrise : RiseL L := by rw [← h.liv]; exact h.up.rise
    obtain ⟨s1, s2, s3⟩ := sums_filter hrise hmem hn
    have hrep2 : LogR H2 b rb cap room top fr (sl.set i (sl[i].1, false)) (L.filter fun p => p.num != n).length (flight (L.filter fun p => p.num != n)) (elic (L.filter fun p => p.num != n)) := by
      refine ⟨by rw [s1, s2, s3]; exact ho2, hrep.ne, hrep.hroom, hrep.hfr, hrep.hlen, ?_⟩
      obtain ⟨c2, f2, hc2, hr2, hcap2, hf2⟩ := hrep.ring
      exact ⟨c2, f2, by rw [hx2 rb (Ne.symm hrep.ne) (own_lt hc2)]; exact hc2, hr2, hcap2, hf2⟩
    have hls : H.size ≠ rb := by omega
    have hlb : H.size ≠ b := by omega
    -- the local packet
    have hloc : own H2 H.size = some (pktC pkt0) := by
      have h1 : own H' H.size = some (pktC pkt0) := he.own own_newB_self (by simp)
      rw [hx2 _ hlb (by rw [size_setB]; exact own_lt h1), own_setB_ne hls]; exact h1
    have hE2 : Ext [b, rb] H H2 := (((e0.mono (by simp)).trans (he.mono (by simp))).setB rb _ (Or.inl (by simp))).trans (he2.mono (by simp))
    have hg3 : ldE true 6 (.pointer (some ⟨rb, o, none⟩)) H2 = some (pv sl[i].1) := by
      obtain ⟨c2, f2, hc2, hr2, hcap2, hf2⟩ := hrep2.ring
      have hlt2 : (fr + i) % (2 * room) < cap := Nat.lt_of_lt_of_le (Nat.mod_lt _ (by omega)) hcap2
      have := hr2.part (o := 0) (m := 6) hlt2 (by omega)
      rw [hf2 i (by rw [List.length_set]; exact hi), List.getElem_set_self, Nat.add_zero, ← ho] at this
      simp only [ldE_t, rdA_u, own_blk hc2, Option.bind_some, this, Option.map_some]; rfl
    have hst3 : stE 6 (ptr H.size) (pv sl[i].1) H2 = some (setB H2 H.size (pktC sl[i].1)) := by
      simp only [stE_p, cells_agg, pktC_s, if_true]
      rw [wrA_u hloc (by rw [pktC_l]; exact Nat.le_refl _) pktC_a, splice_pkt]
    try simp only [ew, Nat.reduceAdd, Nat.reduceMul, Nat.reduceLeDiff, Int.reduceBNe, Int.reduceBEq, Int.reduceLT, Int.reduceLE, hg3, hst3]
    have hfind : L.find? (fun p => p.num == n) = some sl[i].1 := by rw [← h.liv]; exact find_live_some h.up hi hn ht
    have hliv2 : live (sl.set i (sl[i].1, false)) = L.filter fun p => p.num != n := by rw [live_set h.up hi hn, h.liv]
    have hup2 : Up (sl.set i (sl[i].1, false)) := by
      refine List.pairwise_iff_getElem.2 fun j k hj hk hjk => ?_
      rw [List.length_set] at hj hk
      have := h.up.lt hj hk hjk
      simp only [List.getElem_set]
      split <;> split <;> simp_all
    have hmay2 : ∀ s ∈ sl.set i (sl[i].1, false), May s.1 ∧ s.1.num ≤ top := by
      intro s hs
      rcases List.mem_or_eq_of_mem_set hs with h1 | h1
      · exact h.may s h1
      · subst h1; exact hmx
    generalize hL' : (L.filter fun p => p.num != n) = L' at *
    have hfew2 : L'.length ≤ room := by rw [← hL']; exact Nat.le_trans (List.length_filter_le _ _) h.few
    -- the loop
    refine ⟨fun H3 => Ext [b, rb] H H3 ∧ own H3 H.size = some (pktC sl[i].1) ∧ ∃ fr sl, LogR H3 b rb cap room top fr sl L'.length (flight L') (elic L') ∧ Up sl ∧ live sl = L' ∧ (∀ s ∈ sl, May s.1 ∧ s.1.num ≤ top),
      fun H3 => match blk H3 b with | some c => (match c[4]? with | some (Value.int _ n) => n.toNat | _ => 0) | none => 0, ⟨hE2.setB _ _ (Or.inr (Nat.le_refl _)), own_setB_same hloc, fr, _, hrep2.ext ((Ext.refl [H.size] _).setB _ _ (Or.inl (by simp))) (by simp; omega) (by simp; omega), hup2, hliv2, hmay2⟩, ?_⟩
    clear hrep2 hup2 hliv2 hmay2 hst3 hg3 hloc hE2 hx2 he2 hg2 hst hrep
    rintro H3 ⟨hE3, hloc, fr', sl', hr, hu, hl, hm⟩
    have hs3 := hr.hlen
    have hb4 : ldE false 1 (.pointer (some ⟨b, 4, none⟩)) H3 = some (iv sl'.length) := ld_ptr (own_blk hr.log) logC_4
    have hb3 : ldE false 1 (.pointer (some ⟨b, 3, none⟩)) H3 = some (iv fr') := ld_ptr (own_blk hr.log) logC_3
    have hb2 : ldE false 1 (.pointer (some ⟨b, 2, none⟩)) H3 = some (.slice (some ⟨rb, 0, none⟩) (2 * room) cap) := ld_ptr (own_blk hr.log) logC_2
    have hfin : (∀ s ∈ sl'.head?, s.2 = true) → bnd (ldE true 6 (ptr H.size) H3) fun v60 => bnd (stE 6 (ptr H.size) v60 H3) fun H1 => bnd (ldE true 6 (ptr H.size) H1) fun r0 => R (.tuple #[r0, .bool true]) H1 := fun hhead => by
      have l1 : ldE true 6 (ptr H.size) H3 = some (pv sl[i].1) := by simp only [ldE_t, rdA_u, own_blk hloc, Option.bind_some, pktC_g, Option.map_some]
      have l2 : stE 6 (ptr H.size) (pv sl[i].1) H3 = some H3 := by
        simp only [stE_p, cells_agg, pktC_s, if_true]
        rw [wrA_u hloc (by rw [pktC_l]; exact Nat.le_refl _) pktC_a, splice_pkt, setB_self (own_blk hloc)]
      rw [l1, bnd_some, l2, bnd_some, l1, bnd_some]
      have := hR H3 hE3 ⟨cap, fr', sl', hr, hu, hl, hm, h.htop, hfew2, hhead⟩
      rw [hfind] at this; exact this
    try simp only [ew, Nat.reduceAdd, Nat.reduceMul, Nat.reduceLeDiff, Int.reduceBNe, Int.reduceBEq, Int.reduceLT, Int.reduceLE, hb4]
    refine brV_d (fun hpos => ?_) (fun hpos => ?_)
    · have hpos' : 0 < sl'.length := by omega
      have hat := fun R => hr.at (i := 0) hpos' (R := R)
      refine hat _ fun o' c' hc' _ h6 _ _ => ?_
      have hl6 : ldE false 1 (.pointer (some ⟨rb, o' + 6, none⟩)) H3 = some (.bool sl'[0].2) := ld_ptr hc' h6
      try simp only [ew, Nat.reduceAdd, Nat.reduceMul, Nat.reduceLeDiff, Int.reduceBNe, Int.reduceBEq, Int.reduceLT, Int.reduceLE, hl6]
      refine brV_i (fun hth => ?_) (fun hth => ?_)
      · -- the head goes
        have hfr' := hr.hfr
        have hw1 : binV .int .add (iv fr') (.int .i64 1) = some (iv (fr' + 1)) := bin_addw (by omega)
        have hw2 : binV .int .rem (iv (fr' + 1)) (iv ((2 * room : Nat) : Int)) = some (iv (((fr' + 1) % (2 * room) : Nat) : Int)) := by
          rw [bin_rem (by omega), Int.tmod_eq_emod_of_nonneg (by omega)]; simp
        have hw3 : binV .int .sub (iv sl'.length) (.int .i64 1) = some (iv ((sl'.tail.length : Nat) : Int)) := by
          rw [bin_subw (by omega), List.length_tail]; congr 2; omega
        have st3 : stE 1 (.pointer (some ⟨b, 3, none⟩)) (iv (((fr' + 1) % (2 * room) : Nat) : Int)) H3 = some (setB H3 b (logC room top rb (2 * room) cap (((fr' + 1) % (2 * room) : Nat) : Int) sl'.length L'.length (flight L') (elic L'))) := by
          rw [st_ptr hr.log (by rw [logC_s]; omega) rfl rfl, logC_w3]
        have hlog2 := own_setB_same (c' := logC room top rb (2 * room) cap (((fr' + 1) % (2 * room) : Nat) : Int) sl'.length L'.length (flight L') (elic L')) hr.log
        have st4 : stE 1 (.pointer (some ⟨b, 4, none⟩)) (iv ((sl'.tail.length : Nat) : Int)) (setB H3 b (logC room top rb (2 * room) cap (((fr' + 1) % (2 * room) : Nat) : Int) sl'.length L'.length (flight L') (elic L'))) =
            some (setB H3 b (logC room top rb (2 * room) cap (((fr' + 1) % (2 * room) : Nat) : Int) (sl'.tail.length : Nat) L'.length (flight L') (elic L'))) := by
          rw [st_ptr hlog2 (by rw [logC_s]; omega) rfl rfl, logC_w4, setB_setB]
        have l4 : ldE false 1 (.pointer (some ⟨b, 4, none⟩)) (setB H3 b (logC room top rb (2 * room) cap (((fr' + 1) % (2 * room) : Nat) : Int) sl'.length L'.length (flight L') (elic L'))) = some (iv sl'.length) := ld_ptr (own_blk hlog2) logC_4
        try simp only [ew, Nat.reduceAdd, Nat.reduceMul, Nat.reduceLeDiff, Int.reduceBNe, Int.reduceBEq, Int.reduceLT, Int.reduceLE, hb3, hb2, hw1, hw2, st3, l4, hw3, st4]
        refine ⟨⟨hE3.setB _ _ (Or.inl (by simp)), by rw [own_setB_ne (by omega)]; exact hloc, (fr' + 1) % (2 * room), sl'.tail, ?_, List.Pairwise.sublist (List.tail_sublist _) hu, ?_, fun s hs => hm s (List.mem_of_mem_tail hs)⟩, ?_⟩
        · obtain ⟨c2, f2, hc2, hr2, hcap2, hf2⟩ := hr.ring
          refine ⟨own_setB_same hr.log, hr.ne, hr.hroom, Nat.mod_lt _ (by omega), by rw [List.length_tail]; omega, c2, f2, by rw [own_setB_ne (Ne.symm hr.ne)]; exact hc2, hr2, hcap2, fun j hj => ?_⟩
          rw [List.length_tail] at hj
          have := hf2 (j + 1) (by omega)
          rw [Nat.mod_add_mod, List.getElem_tail, ← this]; congr 1; congr 1; omega
        · cases sl' with
          | nil => simp at hpos'
          | cons s sl' =>
            have : s.2 = false := by simpa using hth
            rw [live_cons, this] at hl; exact hl
        · simp only [blk_setB_m, own_blk hr.log, Option.map_some, logC_4, List.length_tail, Int.toNat_natCast]; omega
      · refine hfin fun s hs => ?_
        cases sl' with
        | nil => simp at hpos'
        | cons s' sl' => simp at hs; subst hs; simpa using hth
    · refine hfin fun s hs => ?_
      have : sl' = [] := List.length_eq_zero_iff.1 (by omega)
      subst this; simp at hs
end Go.Hc

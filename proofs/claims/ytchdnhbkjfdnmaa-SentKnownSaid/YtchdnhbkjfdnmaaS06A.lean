/- The log: what the small functions do. -/
import Derived.Test.YtchdnhbkjfdnmaaHcM
import Derived.Test.YtchdnhbkjfdnmaaF0
import Derived.Test.YtchdnhbkjfdnmaaF1
import Derived.Test.YtchdnhbkjfdnmaaF2
import Derived.Test.YtchdnhbkjfdnmaaF3
import Derived.Test.YtchdnhbkjfdnmaaF4
import Derived.Test.YtchdnhbkjfdnmaaF5
import Derived.Test.YtchdnhbkjfdnmaaF6
set_option linter.unusedSimpArgs false
set_option linter.unusedVariables false
namespace Go.Hc
open Go

abbrev iv (n : Int) : Value := .int .i64 n
abbrev ptr (b : Nat) : Value := .pointer (some ⟨b, 0, none⟩)
structure Pkt where
  num : Int
  time : Int
  size : Int
  el : Bool
  fl : Bool
  ec : Bool
deriving DecidableEq
def pktC (p : Pkt) : Array Value := #[iv p.num, iv p.time, iv p.size, .bool p.el, .bool p.fl, .bool p.ec]
def slotC (s : Pkt × Bool) : Array Value := #[iv s.1.num, iv s.1.time, iv s.1.size, .bool s.1.el, .bool s.1.fl, .bool s.1.ec, .bool s.2]
def pkt0 : Pkt := ⟨0, 0, 0, false, false, false⟩
def pktE : Enc Pkt := ⟨6, pktC pkt0, pktC, fun _ => rfl, rfl, fun _ => by simp [pktC, isCell], by simp [pktC, isCell]⟩
def slotE : Enc (Pkt × Bool) := ⟨7, slotC (pkt0, false), slotC, fun _ => rfl, rfl, fun _ => by simp [slotC, isCell], by simp [slotC, isCell]⟩
section
variable {p : Pkt}
theorem pktC_0 : (pktC p)[0]? = some (iv p.num) := rfl
theorem pktC_1 : (pktC p)[1]? = some (iv p.time) := rfl
theorem pktC_2 : (pktC p)[2]? = some (iv p.size) := rfl
theorem pktC_3 : (pktC p)[3]? = some (.bool p.el) := rfl
theorem pktC_4 : (pktC p)[4]? = some (.bool p.fl) := rfl
theorem pktC_5 : (pktC p)[5]? = some (.bool p.ec) := rfl
theorem pktC_s : (pktC p).size = 6 := rfl
theorem pktC_g : getC (pktC p) 0 6 = some (pktC p) := rfl
end
def logC (room last : Int) (rb n cap : Nat) (fr lo ma fl el : Int) : Array Value := #[iv room, iv last, .slice (some ⟨rb, 0, none⟩) n cap, iv fr, iv lo, iv ma, iv fl, iv el]
section
variable {room last : Int} {rb n cap : Nat} {fr lo ma fl el x : Int} {rb' n' cap' : Nat}
theorem logC_0 : (logC room last rb n cap fr lo ma fl el)[0]? = some (iv room) := rfl
theorem logC_1 : (logC room last rb n cap fr lo ma fl el)[1]? = some (iv last) := rfl
theorem logC_2 : (logC room last rb n cap fr lo ma fl el)[2]? = some (.slice (some ⟨rb, 0, none⟩) n cap) := rfl
theorem logC_3 : (logC room last rb n cap fr lo ma fl el)[3]? = some (iv fr) := rfl
theorem logC_4 : (logC room last rb n cap fr lo ma fl el)[4]? = some (iv lo) := rfl
theorem logC_5 : (logC room last rb n cap fr lo ma fl el)[5]? = some (iv ma) := rfl
theorem logC_6 : (logC room last rb n cap fr lo ma fl el)[6]? = some (iv fl) := rfl
theorem logC_7 : (logC room last rb n cap fr lo ma fl el)[7]? = some (iv el) := rfl
theorem logC_s : (logC room last rb n cap fr lo ma fl el).size = 8 := rfl
theorem logC_w1 : splice (logC room last rb n cap fr lo ma fl el) 1 [iv x] = logC room x rb n cap fr lo ma fl el := rfl
theorem logC_w2 : splice (logC room last rb n cap fr lo ma fl el) 2 [.slice (some ⟨rb', 0, none⟩) n' cap'] = logC room last rb' n' cap' fr lo ma fl el := rfl
theorem logC_w3 : splice (logC room last rb n cap fr lo ma fl el) 3 [iv x] = logC room last rb n cap x lo ma fl el := rfl
theorem logC_w4 : splice (logC room last rb n cap fr lo ma fl el) 4 [iv x] = logC room last rb n cap fr x ma fl el := rfl
theorem logC_w5 : splice (logC room last rb n cap fr lo ma fl el) 5 [iv x] = logC room last rb n cap fr lo x fl el := rfl
theorem logC_w6 : splice (logC room last rb n cap fr lo ma fl el) 6 [iv x] = logC room last rb n cap fr lo ma x el := rfl
theorem logC_w7 : splice (logC room last rb n cap fr lo ma fl el) 7 [iv x] = logC room last rb n cap fr lo ma fl x := rfl
end

theorem none_nil {H : Heap} {R : Value → Heap → Prop} (hR : R (.bool true) H) : EvF P N.sent_Log_none #[.pointer none] H R := by
  refine sent_Log_none_ev _ _ _ ?_
  simp only [sent_Log_none_g5, sent_Log_none_g6, sent_Log_none]
  simp only [bnd_some, brV_t, brV_f, newE_u, pickE_t, pickE_f, nilV_p, faV_p, ldE_f, ldE_t, rdA_u, stE_p, cells_int, cells_bool, cells_ptr, cells_slice, cells_func, cells_agg, bin_add, bin_sub, bin_mul, bin_eql, bin_neq, bin_lss, bin_leq, bin_gtr, bin_geq, bin_eqlb, bin_neqb, bin_eqlp, bin_eqlp0, bin_neqp, bin_neqp0, bin_eqls, bin_eqls0, un_not, un_neg, len_s, ex_t, cv_i, callV_f, Option.bind_some, Option.map_some, Nat.zero_add, Nat.add_zero, Nat.reduceAdd, Nat.reduceMul, size_newB, size_setB, blk_newB_self, own_newB_self, wrA_b, own_setB_m, blk_setB_m, setB_setB, List.getElem?_toArray, List.getElem?_cons_zero, List.getElem?_cons_succ, List.length_cons, List.length_nil, List.all_cons, List.all_nil, isCell_int, isCell_bool, isCell_ptr, isCell_slice, isCell_func, Bool.and_true, Bool.and_self, and_self, if_true, List.size_toArray, and_true, true_and, Nat.reduceLeDiff, Nat.le_refl, Bool.not_true, Bool.not_false, Bool.true_and, Bool.false_and, Bool.and_false, Int.reduceBNe, Int.reduceBEq, Int.reduceLT, Int.reduceLE, decide_true, decide_false, Option.isNone_none]
  exact hR
theorem none_ev {b rb n cap : Nat} {room last fr lo ma fl el : Int} {H : Heap} {R : Value → Heap → Prop} (hb : own H b = some (logC room last rb n cap fr lo ma fl el)) (h0 : room ≠ 0)
    (hR : R (.bool false) H) : EvF P N.sent_Log_none #[ptr b] H R := by
  refine sent_Log_none_ev _ _ _ ?_
  have h0' : (room == 0) = false := by simpa using h0
  simp only [sent_Log_none_g5, sent_Log_none_g6, sent_Log_none]
  simp only [bnd_some, brV_t, brV_f, newE_u, pickE_t, pickE_f, nilV_p, faV_p, ldE_f, ldE_t, rdA_u, stE_p, cells_int, cells_bool, cells_ptr, cells_slice, cells_func, cells_agg, bin_add, bin_sub, bin_mul, bin_eql, bin_neq, bin_lss, bin_leq, bin_gtr, bin_geq, bin_eqlb, bin_neqb, bin_eqlp, bin_eqlp0, bin_neqp, bin_neqp0, bin_eqls, bin_eqls0, un_not, un_neg, len_s, ex_t, cv_i, callV_f, Option.bind_some, Option.map_some, Nat.zero_add, Nat.add_zero, Nat.reduceAdd, Nat.reduceMul, size_newB, size_setB, blk_newB_self, own_newB_self, wrA_b, own_setB_m, blk_setB_m, setB_setB, List.getElem?_toArray, List.getElem?_cons_zero, List.getElem?_cons_succ, List.length_cons, List.length_nil, List.all_cons, List.all_nil, isCell_int, isCell_bool, isCell_ptr, isCell_slice, isCell_func, Bool.and_true, Bool.and_self, and_self, if_true, List.size_toArray, and_true, true_and, Nat.reduceLeDiff, Nat.le_refl, Bool.not_true, Bool.not_false, Bool.true_and, Bool.false_and, Bool.and_false, Int.reduceBNe, Int.reduceBEq, Int.reduceLT, Int.reduceLE, decide_true, decide_false, own_blk hb, logC_0, h0']
  exact hR
theorem at_ev {b rb n cap : Nat} {room last fr lo ma fl el i : Int} {H : Heap} {R : Value → Heap → Prop} (hb : own H b = some (logC room last rb n cap fr lo ma fl el))
    (hn : 0 < n ∧ n ≤ 512) (hf : 0 ≤ fr ∧ fr < n) (hi : 0 ≤ i ∧ i ≤ n)
    (hR : R (.pointer (some ⟨rb, ((fr + i) % n).toNat * 7, none⟩)) H) : EvF P N.sent_Log_at #[ptr b, iv i] H R := by
  refine sent_Log_at_ev _ _ _ _ ?_
  have h1 : (0:Int) < n := by omega
  have h2 : IntKind.i64.wrap (fr + i) = fr + i := wrap_in (by omega)
  have h3 : (fr + i).tmod n = (fr + i) % n := Int.tmod_eq_emod_of_nonneg (by omega)
  have h4 := Int.emod_nonneg (fr + i) (b := n) (by omega)
  have h5 := Int.emod_lt_of_pos (fr + i) h1
  simp only [sent_Log_at_g5, sent_Log_at_g6, sent_Log_at]
  simp only [bnd_some, brV_t, brV_f, newE_u, pickE_t, pickE_f, nilV_p, faV_p, ldE_f, ldE_t, rdA_u, stE_p, cells_int, cells_bool, cells_ptr, cells_slice, cells_func, cells_agg, bin_add, bin_sub, bin_mul, bin_eql, bin_neq, bin_lss, bin_leq, bin_gtr, bin_geq, bin_eqlb, bin_neqb, bin_eqlp, bin_eqlp0, bin_neqp, bin_neqp0, bin_eqls, bin_eqls0, un_not, un_neg, len_s, ex_t, cv_i, callV_f, Option.bind_some, Option.map_some, Nat.zero_add, Nat.add_zero, Nat.reduceAdd, Nat.reduceMul, size_newB, size_setB, blk_newB_self, own_newB_self, wrA_b, own_setB_m, blk_setB_m, setB_setB, List.getElem?_toArray, List.getElem?_cons_zero, List.getElem?_cons_succ, List.length_cons, List.length_nil, List.all_cons, List.all_nil, isCell_int, isCell_bool, isCell_ptr, isCell_slice, isCell_func, Bool.and_true, Bool.and_self, and_self, if_true, List.size_toArray, and_true, true_and, Nat.reduceLeDiff, Nat.le_refl, Bool.not_true, Bool.not_false, Bool.true_and, Bool.false_and, Bool.and_false, Int.reduceBNe, Int.reduceBEq, Int.reduceLT, Int.reduceLE, decide_true, decide_false, own_blk hb, logC_2, logC_3, h2, bin_rem (show (n:Int) ≠ 0 by omega), h3, ixS_u (show 0 ≤ (fr + i) % n ∧ (fr + i) % n < n from ⟨h4, h5⟩)]
  exact hR
theorem count_ev {b rb n cap : Nat} {room last fr lo ma fl el by_ : Int} {p : Pkt} {H : Heap} {R : Value → Heap → Prop} (hb : own H b = some (logC room last rb n cap fr lo ma fl el))
    (hby : by_ = 1 ∨ by_ = -1) (hm : 0 ≤ ma ∧ ma ≤ 1000) (hl : 0 ≤ el ∧ el ≤ 1000) (hf : 0 ≤ fl ∧ fl ≤ 1099511627776) (hp : 0 ≤ p.size ∧ p.size ≤ 65535)
    (hR : ∀ H', Ext [b] H H' → own H' b = some (logC room last rb n cap fr lo (ma + by_) (if p.fl then fl + by_ * p.size else fl) (if p.fl && p.el then el + by_ else el)) →
      (∀ b', b' ≠ b → b' < H.size → own H' b' = own H b') → R (.tuple #[]) H') :
    EvF P N.sent_Log_count #[ptr b, .agg (pktC p), iv by_] H R := by
  refine sent_Log_count_ev _ _ _ _ _ ?_
  have hlt := own_lt hb
  have hne : b ≠ H.size := by omega
  have w1 : IntKind.i64.wrap (ma + by_) = ma + by_ := wrap_in (by omega)
  have w2 : IntKind.i64.wrap (el + by_) = el + by_ := wrap_in (by omega)
  have w3 : IntKind.i64.wrap (by_ * p.size) = by_ * p.size := wrap_in (by rcases hby with rfl | rfl <;> omega)
  have w4 : IntKind.i64.wrap (fl + by_ * p.size) = fl + by_ * p.size := wrap_in (by rcases hby with rfl | rfl <;> omega)
  have hq : ∀ c, blk (setB (newB H 30 (pktC p)) b c) H.size = some (pktC p) := fun c => by rw [blk_setB_ne (Ne.symm hne), blk_newB_self]
  have hx : ∀ b' c, b' ≠ b → b' < H.size → own (setB (newB H 30 (pktC p)) b c) b' = own H b' := fun b' c h1 h2 => by rw [own_setB_ne h1, own_newB_ne (by omega)]
  have he : ∀ c, Ext [b] H (setB (newB H 30 (pktC p)) b c) := fun c => ((Ext.refl _ _).newB _ _).setB _ _ (Or.inl (by simp))
  have ho : ∀ c, own (setB (newB H 30 (pktC p)) b c) b = some c := fun c => own_setB_same (by rw [own_newB_ne hne]; exact hb)
  have step : ∀ c, (p.fl = false → c = logC room last rb n cap fr lo (ma + by_) fl el) → (p.fl = true → p.el = false → c = logC room last rb n cap fr lo (ma + by_) (fl + by_ * p.size) el) →
      (p.fl = true → p.el = true → c = logC room last rb n cap fr lo (ma + by_) (fl + by_ * p.size) (el + by_)) → R (.tuple #[]) (setB (newB H 30 (pktC p)) b c) := fun c h1 h2 h3 => by
    refine hR _ (he c) ?_ fun b' h1 h2 => hx b' c h1 h2
    rw [ho]
    cases hfl : p.fl
    · rw [h1 hfl]; simp
    · cases hel : p.el
      · rw [h2 hfl hel]; simp
      · rw [h3 hfl hel]; simp
  simp only [sent_Log_count_g15, sent_Log_count_g16, sent_Log_count_g17, sent_Log_count_g18, sent_Log_count_g19, sent_Log_count_g20, sent_Log_count]
  simp only [bnd_some, brV_t, brV_f, newE_u, pickE_t, pickE_f, nilV_p, faV_p, ldE_f, ldE_t, rdA_u, stE_p, cells_int, cells_bool, cells_ptr, cells_slice, cells_func, cells_agg, bin_add, bin_sub, bin_mul, bin_eql, bin_neq, bin_lss, bin_leq, bin_gtr, bin_geq, bin_eqlb, bin_neqb, bin_eqlp, bin_eqlp0, bin_neqp, bin_neqp0, bin_eqls, bin_eqls0, un_not, un_neg, len_s, ex_t, cv_i, callV_f, Option.bind_some, Option.map_some, Nat.zero_add, Nat.add_zero, Nat.reduceAdd, Nat.reduceMul, size_newB, size_setB, blk_newB_self, own_newB_self, wrA_b, own_setB_m, blk_setB_m, setB_setB, List.getElem?_toArray, List.getElem?_cons_zero, List.getElem?_cons_succ, List.length_cons, List.length_nil, List.all_cons, List.all_nil, isCell_int, isCell_bool, isCell_ptr, isCell_slice, isCell_func, Bool.and_true, Bool.and_self, and_self, if_true, List.size_toArray, and_true, true_and, Nat.reduceLeDiff, Nat.le_refl, Bool.not_true, Bool.not_false, Bool.true_and, Bool.false_and, Bool.and_false, Int.reduceBNe, Int.reduceBEq, Int.reduceLT, Int.reduceLE, decide_true, decide_false, blk_newB_ne hne, own_newB_ne hne, own_blk hb, hb, logC_5, logC_6, logC_7, logC_s, logC_w5, logC_w6, logC_w7, w1, w2, w3, w4, hq, pktC_3, pktC_4, pktC_2]
  refine brV_i (fun h => ?_) (fun h => ?_)
  · exact step _ (fun _ => rfl) (fun h' => by simp [h'] at h) (fun h' => by simp [h'] at h)
  · have h' : p.fl = true := by simpa using h
    refine brV_i (fun h2 => ?_) (fun h2 => ?_)
    · exact step _ (fun h'' => by simp [h''] at h') (fun _ h3 => by simp [h3] at h2) (fun _ _ => rfl)
    · exact step _ (fun h'' => by simp [h''] at h') (fun _ _ => rfl) (fun _ h3 => by simp [h3] at h2)
theorem more_ev {b rb n cap : Nat} {room last fr lo ma fl el : Int} {p : Pkt} {H : Heap} {R : Value → Heap → Prop} (hb : own H b = some (logC room last rb n cap fr lo ma fl el))
    (hm : 0 ≤ ma ∧ ma ≤ 1000) (hl : 0 ≤ el ∧ el ≤ 1000) (hf : 0 ≤ fl ∧ fl ≤ 1099511627776) (hp : 0 ≤ p.size ∧ p.size ≤ 65535)
    (hR : ∀ H', Ext [b] H H' → own H' b = some (logC room last rb n cap fr lo (ma + 1) (if p.fl then fl + 1 * p.size else fl) (if p.fl && p.el then el + 1 else el)) →
      (∀ b', b' ≠ b → b' < H.size → own H' b' = own H b') → R (.tuple #[]) H') :
    EvF P N.sent_Log_more #[ptr b, .agg (pktC p)] H R := by
  refine sent_Log_more_ev _ _ _ _ ?_
  have hne : b ≠ H.size := by have := own_lt hb; omega
  simp only [sent_Log_more_g4, sent_Log_more_g5, sent_Log_more]
  simp only [bnd_some, brV_t, brV_f, newE_u, pickE_t, pickE_f, nilV_p, faV_p, ldE_f, ldE_t, rdA_u, stE_p, cells_int, cells_bool, cells_ptr, cells_slice, cells_func, cells_agg, bin_add, bin_sub, bin_mul, bin_eql, bin_neq, bin_lss, bin_leq, bin_gtr, bin_geq, bin_eqlb, bin_neqb, bin_eqlp, bin_eqlp0, bin_neqp, bin_neqp0, bin_eqls, bin_eqls0, un_not, un_neg, len_s, ex_t, cv_i, callV_f, Option.bind_some, Option.map_some, Nat.zero_add, Nat.add_zero, Nat.reduceAdd, Nat.reduceMul, size_newB, size_setB, blk_newB_self, own_newB_self, wrA_b, own_setB_m, blk_setB_m, setB_setB, List.getElem?_toArray, List.getElem?_cons_zero, List.getElem?_cons_succ, List.length_cons, List.length_nil, List.all_cons, List.all_nil, isCell_int, isCell_bool, isCell_ptr, isCell_slice, isCell_func, Bool.and_true, Bool.and_self, and_self, if_true, List.size_toArray, and_true, true_and, Nat.reduceLeDiff, Nat.le_refl, Bool.not_true, Bool.not_false, Bool.true_and, Bool.false_and, Bool.and_false, Int.reduceBNe, Int.reduceBEq, Int.reduceLT, Int.reduceLE, decide_true, decide_false, pktC_g]
  refine count_ev (by rw [own_newB_ne hne]; exact hb) (Or.inl rfl) hm hl hf hp fun H' he ho hx => ?_
  refine hR H' (((Ext.refl _ _).newB _ _).trans he) ho fun b' h1 h2 => ?_
  rw [hx b' h1 (by rw [size_newB]; omega), own_newB_ne (by omega)]
theorem less_ev {b rb n cap : Nat} {room last fr lo ma fl el : Int} {p : Pkt} {H : Heap} {R : Value → Heap → Prop} (hb : own H b = some (logC room last rb n cap fr lo ma fl el))
    (hm : 0 ≤ ma ∧ ma ≤ 1000) (hl : 0 ≤ el ∧ el ≤ 1000) (hf : 0 ≤ fl ∧ fl ≤ 1099511627776) (hp : 0 ≤ p.size ∧ p.size ≤ 65535)
    (hR : ∀ H', Ext [b] H H' → own H' b = some (logC room last rb n cap fr lo (ma + -1) (if p.fl then fl + -1 * p.size else fl) (if p.fl && p.el then el + -1 else el)) →
      (∀ b', b' ≠ b → b' < H.size → own H' b' = own H b') → R (.tuple #[]) H') :
    EvF P N.sent_Log_less #[ptr b, .agg (pktC p)] H R := by
  refine sent_Log_less_ev _ _ _ _ ?_
  have hne : b ≠ H.size := by have := own_lt hb; omega
  simp only [sent_Log_less_g4, sent_Log_less_g5, sent_Log_less]
  simp only [bnd_some, brV_t, brV_f, newE_u, pickE_t, pickE_f, nilV_p, faV_p, ldE_f, ldE_t, rdA_u, stE_p, cells_int, cells_bool, cells_ptr, cells_slice, cells_func, cells_agg, bin_add, bin_sub, bin_mul, bin_eql, bin_neq, bin_lss, bin_leq, bin_gtr, bin_geq, bin_eqlb, bin_neqb, bin_eqlp, bin_eqlp0, bin_neqp, bin_neqp0, bin_eqls, bin_eqls0, un_not, un_neg, len_s, ex_t, cv_i, callV_f, Option.bind_some, Option.map_some, Nat.zero_add, Nat.add_zero, Nat.reduceAdd, Nat.reduceMul, size_newB, size_setB, blk_newB_self, own_newB_self, wrA_b, own_setB_m, blk_setB_m, setB_setB, List.getElem?_toArray, List.getElem?_cons_zero, List.getElem?_cons_succ, List.length_cons, List.length_nil, List.all_cons, List.all_nil, isCell_int, isCell_bool, isCell_ptr, isCell_slice, isCell_func, Bool.and_true, Bool.and_self, and_self, if_true, List.size_toArray, and_true, true_and, Nat.reduceLeDiff, Nat.le_refl, Bool.not_true, Bool.not_false, Bool.true_and, Bool.false_and, Bool.and_false, Int.reduceBNe, Int.reduceBEq, Int.reduceLT, Int.reduceLE, decide_true, decide_false, pktC_g]
  refine count_ev (by rw [own_newB_ne hne]; exact hb) (Or.inr rfl) hm hl hf hp fun H' he ho hx => ?_
  refine hR H' (((Ext.refl _ _).newB _ _).trans he) ho fun b' h1 h2 => ?_
  rw [hx b' h1 (by rw [size_newB]; omega), own_newB_ne (by omega)]
/-- What may be a packet. -/
def May (p : Pkt) : Prop := 0 ≤ p.num ∧ p.num ≤ 9007199254740991 ∧ 0 ≤ p.time ∧ p.time ≤ 9007199254740991 ∧ 1 ≤ p.size ∧ p.size ≤ 65535
instance (p : Pkt) : Decidable (May p) := by unfold May; infer_instance
theorem may1_ev {a b c : Int} {H : Heap} {R : Value → Heap → Prop} (hR : R (.bool (decide (b ≤ a ∧ a ≤ c))) H) : EvF P N.sent_may_1 #[iv a, iv b, iv c] H R := by
  refine sent_may_1_ev _ _ _ _ _ ?_
  simp only [sent_may_1_g5, sent_may_1_g6, sent_may_1]
  simp only [bnd_some, brV_t, brV_f, newE_u, pickE_t, pickE_f, nilV_p, faV_p, ldE_f, ldE_t, rdA_u, stE_p, cells_int, cells_bool, cells_ptr, cells_slice, cells_func, cells_agg, bin_add, bin_sub, bin_mul, bin_eql, bin_neq, bin_lss, bin_leq, bin_gtr, bin_geq, bin_eqlb, bin_neqb, bin_eqlp, bin_eqlp0, bin_neqp, bin_neqp0, bin_eqls, bin_eqls0, un_not, un_neg, len_s, ex_t, cv_i, callV_f, Option.bind_some, Option.map_some, Nat.zero_add, Nat.add_zero, Nat.reduceAdd, Nat.reduceMul, size_newB, size_setB, blk_newB_self, own_newB_self, wrA_b, own_setB_m, blk_setB_m, setB_setB, List.getElem?_toArray, List.getElem?_cons_zero, List.getElem?_cons_succ, List.length_cons, List.length_nil, List.all_cons, List.all_nil, isCell_int, isCell_bool, isCell_ptr, isCell_slice, isCell_func, Bool.and_true, Bool.and_self, and_self, if_true, List.size_toArray, and_true, true_and, Nat.reduceLeDiff, Nat.le_refl, Bool.not_true, Bool.not_false, Bool.true_and, Bool.false_and, Bool.and_false, Int.reduceBNe, Int.reduceBEq, Int.reduceLT, Int.reduceLE, decide_true, decide_false]
  refine brV_d (fun h => ?_) (fun h => ?_)
  · simpa [h] using hR
  · simpa [h] using hR
theorem may_ev {p : Pkt} {H : Heap} {R : Value → Heap → Prop} (hR : ∀ H', Ext [] H H' → R (.bool (decide (May p))) H') : EvF P N.sent_may #[.agg (pktC p)] H R := by
  refine sent_may_ev _ _ _ ?_
  have hR' := hR _ ((Ext.refl _ H).newB 30 (pktC p))
  simp only [sent_may_g7, sent_may_g8, sent_may_g9, sent_may]
  simp only [bnd_some, brV_t, brV_f, newE_u, pickE_t, pickE_f, nilV_p, faV_p, ldE_f, ldE_t, rdA_u, stE_p, cells_int, cells_bool, cells_ptr, cells_slice, cells_func, cells_agg, bin_add, bin_sub, bin_mul, bin_eql, bin_neq, bin_lss, bin_leq, bin_gtr, bin_geq, bin_eqlb, bin_neqb, bin_eqlp, bin_eqlp0, bin_neqp, bin_neqp0, bin_eqls, bin_eqls0, un_not, un_neg, len_s, ex_t, cv_i, callV_f, Option.bind_some, Option.map_some, Nat.zero_add, Nat.add_zero, Nat.reduceAdd, Nat.reduceMul, size_newB, size_setB, blk_newB_self, own_newB_self, wrA_b, own_setB_m, blk_setB_m, setB_setB, List.getElem?_toArray, List.getElem?_cons_zero, List.getElem?_cons_succ, List.length_cons, List.length_nil, List.all_cons, List.all_nil, isCell_int, isCell_bool, isCell_ptr, isCell_slice, isCell_func, Bool.and_true, Bool.and_self, and_self, if_true, List.size_toArray, and_true, true_and, Nat.reduceLeDiff, Nat.le_refl, Bool.not_true, Bool.not_false, Bool.true_and, Bool.false_and, Bool.and_false, Int.reduceBNe, Int.reduceBEq, Int.reduceLT, Int.reduceLE, decide_true, decide_false, pktC_0, pktC_1, pktC_2, Array.toList_empty, List.nil_append, List.append_nil]
  refine may1_ev ?_
  refine brV_d (fun h => ?_) (fun h => ?_)
  · simp only [bnd_some, brV_t, brV_f, newE_u, pickE_t, pickE_f, nilV_p, faV_p, ldE_f, ldE_t, rdA_u, stE_p, cells_int, cells_bool, cells_ptr, cells_slice, cells_func, cells_agg, bin_add, bin_sub, bin_mul, bin_eql, bin_neq, bin_lss, bin_leq, bin_gtr, bin_geq, bin_eqlb, bin_neqb, bin_eqlp, bin_eqlp0, bin_neqp, bin_neqp0, bin_eqls, bin_eqls0, un_not, un_neg, len_s, ex_t, cv_i, callV_f, Option.bind_some, Option.map_some, Nat.zero_add, Nat.add_zero, Nat.reduceAdd, Nat.reduceMul, size_newB, size_setB, blk_newB_self, own_newB_self, wrA_b, own_setB_m, blk_setB_m, setB_setB, List.getElem?_toArray, List.getElem?_cons_zero, List.getElem?_cons_succ, List.length_cons, List.length_nil, List.all_cons, List.all_nil, isCell_int, isCell_bool, isCell_ptr, isCell_slice, isCell_func, Bool.and_true, Bool.and_self, and_self, if_true, List.size_toArray, and_true, true_and, Nat.reduceLeDiff, Nat.le_refl, Bool.not_true, Bool.not_false, Bool.true_and, Bool.false_and, Bool.and_false, Int.reduceBNe, Int.reduceBEq, Int.reduceLT, Int.reduceLE, decide_true, decide_false, pktC_1]
    refine may1_ev ?_
    refine brV_d (fun h2 => ?_) (fun h2 => ?_)
    · simp only [bnd_some, brV_t, brV_f, newE_u, pickE_t, pickE_f, nilV_p, faV_p, ldE_f, ldE_t, rdA_u, stE_p, cells_int, cells_bool, cells_ptr, cells_slice, cells_func, cells_agg, bin_add, bin_sub, bin_mul, bin_eql, bin_neq, bin_lss, bin_leq, bin_gtr, bin_geq, bin_eqlb, bin_neqb, bin_eqlp, bin_eqlp0, bin_neqp, bin_neqp0, bin_eqls, bin_eqls0, un_not, un_neg, len_s, ex_t, cv_i, callV_f, Option.bind_some, Option.map_some, Nat.zero_add, Nat.add_zero, Nat.reduceAdd, Nat.reduceMul, size_newB, size_setB, blk_newB_self, own_newB_self, wrA_b, own_setB_m, blk_setB_m, setB_setB, List.getElem?_toArray, List.getElem?_cons_zero, List.getElem?_cons_succ, List.length_cons, List.length_nil, List.all_cons, List.all_nil, isCell_int, isCell_bool, isCell_ptr, isCell_slice, isCell_func, Bool.and_true, Bool.and_self, and_self, if_true, List.size_toArray, and_true, true_and, Nat.reduceLeDiff, Nat.le_refl, Bool.not_true, Bool.not_false, Bool.true_and, Bool.false_and, Bool.and_false, Int.reduceBNe, Int.reduceBEq, Int.reduceLT, Int.reduceLE, decide_true, decide_false, pktC_2]
      refine may1_ev ?_
      simpa [May, h, h2] using hR'
    · have : ¬ May p := fun hm => h2 ⟨hm.2.2.1, hm.2.2.2.1⟩
      simpa [this] using hR'
  · have : ¬ May p := fun hm => h ⟨hm.1, hm.2.1⟩
    simpa [this] using hR'

/-- Search over places of which a rising row of answers is told, by a function that changes nothing. -/
theorem Search_ev {n : Nat} {f : Value} {g : Nat → Bool} {H : Heap} {R : Value → Heap → Prop} (hn : (n : Int) ≤ 1000000000)
    (hf : ∀ i < n, ∀ Q : Value → Heap → Prop, Q (.bool (g i)) H → callV P f [iv i] H Q)
    (hg : ∀ i j, i ≤ j → j < n → g i = true → g j = true)
    (hR : ∀ k, k ≤ n → (∀ i < k, g i = false) → (∀ i, k ≤ i → i < n → g i = true) → R (iv k) H) :
    EvF P N.sort_Search #[iv n, f] H R := by
  refine sort_Search_ev _ _ _ _ ?_
  simp only [sort_Search_g23, sort_Search_g24, sort_Search_g26, sort_Search_g27, sort_Search_g28, sort_Search_g29, sort_Search_g30, sort_Search_g31, sort_Search_s25, sort_Search_l36, sort_Search]
  refine ⟨fun v w H' => H' = H ∧ ∃ i j : Nat, v = iv i ∧ w = iv j ∧ i ≤ j ∧ j ≤ n ∧ (∀ k < i, g k = false) ∧ (∀ k, j ≤ k → k < n → g k = true),
    fun v w _ => (match v, w with | .int _ i, .int _ j => (j - i).toNat | _, _ => 0), ⟨rfl, 0, n, rfl, rfl, Nat.zero_le _, Nat.le_refl _, by omega, by omega⟩, ?_⟩
  rintro v w H' ⟨rfl, i, j, rfl, rfl, hij, hj, hi1, hj1⟩
  have w1 : IntKind.i64.wrap ((i : Int) + j) = (i : Int) + j := wrap_in (by omega)
  have w2 : IntKind.u64.wrap ((i : Int) + j) = (i : Int) + j := by unfold IntKind.wrap; simp [IntKind.signed, IntKind.bits]; omega
  have w3 : binV .int .shr (.int .u64 ((i : Int) + j)) (.int .u64 1) = some (.int .u64 ((i + j) / 2 : Nat)) := by
    simp only [binV, shV, IntKind.bits]
    rw [if_neg (by omega), Int.fdiv_eq_ediv_of_nonneg _ (by decide)]
    congr 2
  have w4 : IntKind.i64.wrap (((i + j) / 2 : Nat) : Int) = (((i + j) / 2 : Nat) : Int) := wrap_in (by omega)
  have w5 : IntKind.i64.wrap ((((i + j) / 2 : Nat) : Int) + 1) = (((i + j) / 2 + 1 : Nat) : Int) := by rw [wrap_in (by omega)]; omega
  simp only [bnd_some, brV_t, brV_f, newE_u, pickE_t, pickE_f, nilV_p, faV_p, ldE_f, ldE_t, rdA_u, stE_p, cells_int, cells_bool, cells_ptr, cells_slice, cells_func, cells_agg, bin_add, bin_sub, bin_mul, bin_eql, bin_neq, bin_lss, bin_leq, bin_gtr, bin_geq, bin_eqlb, bin_neqb, bin_eqlp, bin_eqlp0, bin_neqp, bin_neqp0, bin_eqls, bin_eqls0, un_not, un_neg, len_s, ex_t, cv_i, callV_f, Option.bind_some, Option.map_some, Nat.zero_add, Nat.add_zero, Nat.reduceAdd, Nat.reduceMul, size_newB, size_setB, blk_newB_self, own_newB_self, wrA_b, own_setB_m, blk_setB_m, setB_setB, List.getElem?_toArray, List.getElem?_cons_zero, List.getElem?_cons_succ, List.length_cons, List.length_nil, List.all_cons, List.all_nil, isCell_int, isCell_bool, isCell_ptr, isCell_slice, isCell_func, Bool.and_true, Bool.and_self, and_self, if_true, List.size_toArray, and_true, true_and, Nat.reduceLeDiff, Nat.le_refl, Bool.not_true, Bool.not_false, Bool.true_and, Bool.false_and, Bool.and_false, Int.reduceBNe, Int.reduceBEq, Int.reduceLT, Int.reduceLE, decide_true, decide_false, w1, w2, w3, w4, w5]
  refine brV_d (fun h => ?_) (fun h => ?_)
  · have hlt : i < j := by omega
    refine hf _ (by omega) _ ?_
    simp only [bnd_some, brV_t, brV_f, newE_u, pickE_t, pickE_f, nilV_p, faV_p, ldE_f, ldE_t, rdA_u, stE_p, cells_int, cells_bool, cells_ptr, cells_slice, cells_func, cells_agg, bin_add, bin_sub, bin_mul, bin_eql, bin_neq, bin_lss, bin_leq, bin_gtr, bin_geq, bin_eqlb, bin_neqb, bin_eqlp, bin_eqlp0, bin_neqp, bin_neqp0, bin_eqls, bin_eqls0, un_not, un_neg, len_s, ex_t, cv_i, callV_f, Option.bind_some, Option.map_some, Nat.zero_add, Nat.add_zero, Nat.reduceAdd, Nat.reduceMul, size_newB, size_setB, blk_newB_self, own_newB_self, wrA_b, own_setB_m, blk_setB_m, setB_setB, List.getElem?_toArray, List.getElem?_cons_zero, List.getElem?_cons_succ, List.length_cons, List.length_nil, List.all_cons, List.all_nil, isCell_int, isCell_bool, isCell_ptr, isCell_slice, isCell_func, Bool.and_true, Bool.and_self, and_self, if_true, List.size_toArray, and_true, true_and, Nat.reduceLeDiff, Nat.le_refl, Bool.not_true, Bool.not_false, Bool.true_and, Bool.false_and, Bool.and_false, Int.reduceBNe, Int.reduceBEq, Int.reduceLT, Int.reduceLE, decide_true, decide_false]
    refine brV_i (fun hb => ?_) (fun hb => ?_)
    · refine ⟨⟨(i + j) / 2 + 1, j, rfl, rfl, by omega, hj, fun k hk => ?_, hj1⟩, by omega⟩
      cases hgk : g k with
      | false => rfl
      | true => have := hg k ((i + j) / 2) (by omega) (by omega) hgk
                simp [this] at hb
    · refine ⟨⟨i, (i + j) / 2, rfl, rfl, by omega, by omega, hi1, fun k hk hkn => ?_⟩, by omega⟩
      exact hg _ k hk hkn (by simpa using hb)
  · have : i = j := by omega
    subst this
    exact hR i hj hi1 hj1

/-- The log at b, its ring at rb, from the slot fr on, has the slots sl. -/
structure LogR (H : Heap) (b rb cap room : Nat) (top : Int) (fr : Nat) (sl : List (Pkt × Bool)) (ma fl el : Int) : Prop where
  log : own H b = some (logC room top rb (2 * room) cap fr sl.length ma fl el)
  ne : b ≠ rb
  hroom : 1 ≤ room ∧ room ≤ 256
  hfr : fr < 2 * room
  hlen : sl.length ≤ 2 * room
  ring : ∃ c f, own H rb = some c ∧ Rows 7 c cap f ∧ 2 * room ≤ cap ∧ ∀ i (h : i < sl.length), f ((fr + i) % (2 * room)) = slotC sl[i]
theorem LogR.ext {H H' : Heap} {b rb cap room fr : Nat} {top ma fl el : Int} {sl : List (Pkt × Bool)} {S : List Nat} (h : LogR H b rb cap room top fr sl ma fl el) (he : Ext S H H') (h1 : b ∉ S) (h2 : rb ∉ S) :
    LogR H' b rb cap room top fr sl ma fl el := by
  obtain ⟨c, f, hc, hf⟩ := h.ring
  exact ⟨he.own h.log h1, h.ne, h.hroom, h.hfr, h.hlen, c, f, he.own hc h2, hf⟩
theorem slotC_0 {s : Pkt × Bool} : (slotC s)[0]? = some (iv s.1.num) := rfl
theorem slotC_6 {s : Pkt × Bool} : (slotC s)[6]? = some (.bool s.2) := rfl
theorem slotC_p {s : Pkt × Bool} : (slotC s).extract 0 6 = pktC s.1 := rfl
/-- what at answers -/
theorem LogR.at {H : Heap} {b rb cap room fr : Nat} {top ma fl el : Int} {sl : List (Pkt × Bool)} (h : LogR H b rb cap room top fr sl ma fl el) {i : Nat} (hi : i < sl.length) {R : Value → Heap → Prop}
    (hR : ∀ o c, blk H rb = some c → c[o]? = some (iv sl[i].1.num) → c[o + 6]? = some (.bool sl[i].2) → getC c o 6 = some (pktC sl[i].1) → o = (fr + i) % (2 * room) * 7 → R (.pointer (some ⟨rb, o, none⟩)) H) :
    EvF P N.sent_Log_at #[ptr b, iv i] H R := by
  have h1 := h.hroom
  have h2 := h.hfr
  have h3 := h.hlen
  refine at_ev h.log (by omega) (by omega) (by omega) ?_
  have e : (((fr : Int) + i) % ((2 * room : Nat) : Int)).toNat = (fr + i) % (2 * room) := by
    rw [← Int.natCast_add, ← Int.natCast_emod]; rfl
  rw [e]
  obtain ⟨c, f, hc, hr, hcap, hf⟩ := h.ring
  have hlt : (fr + i) % (2 * room) < cap := Nat.lt_of_lt_of_le (Nat.mod_lt _ (by omega)) hcap
  have hfi := hf i hi
  refine hR _ c (own_blk hc) ?_ ?_ ?_ rfl
  · have := hr.cell (j := 0) hlt (by omega); rw [hfi, slotC_0] at this; exact this
  · have := hr.cell (j := 6) hlt (by omega); rw [hfi, slotC_6] at this; exact this
  · have := hr.part (o := 0) (m := 6) hlt (by omega); rw [hfi] at this; exact this
/-- rising numbers -/
def Up (sl : List (Pkt × Bool)) : Prop := sl.Pairwise fun a b => a.1.num < b.1.num
theorem Up.lt {sl : List (Pkt × Bool)} (h : Up sl) {i j : Nat} (hi : i < sl.length) (hj : j < sl.length) (hij : i < j) : sl[i].1.num < sl[j].1.num :=
  List.pairwise_iff_getElem.1 h i j hi hj hij
theorem find_ev {H : Heap} {b rb cap room fr : Nat} {top ma fl el : Int} {sl : List (Pkt × Bool)} {n : Int} {R : Value → Heap → Prop} (h : LogR H b rb cap room top fr sl ma fl el) (hu : Up sl)
    (hR : ∀ k H', Ext [] H H' → k ≤ sl.length → (∀ i (hi : i < sl.length), i < k → sl[i].1.num < n) → (∀ i (hi : i < sl.length), k ≤ i → n ≤ sl[i].1.num) → R (iv k) H') :
    EvF P N.sent_Log_find #[ptr b, iv n] H R := by
  refine sent_Log_find_ev _ _ _ _ ?_
  have hne : b ≠ H.size := by have := own_lt h.log; omega
  have hne2 : b ≠ H.size + 1 := by have := own_lt h.log; omega
  have hne' : H.size ≠ H.size + 1 := by omega
  have hs : (newB H 23 #[ptr b]).size = H.size + 1 := size_newB _ _ _
  have q1 : blk (newB (newB H 23 #[ptr b]) 3 #[iv n]) H.size = some #[ptr b] := by rw [blk_newB_ne (by rw [hs]; omega), blk_newB_self]
  have q2 : blk (newB (newB H 23 #[ptr b]) 3 #[iv n]) (H.size + 1) = some #[iv n] := by rw [← hs, blk_newB_self]
  have hE : Ext [] H (newB (newB H 23 #[ptr b]) 3 #[iv n]) := ((Ext.refl _ _).newB _ _).newB _ _
  have h' := h.ext hE (by simp) (by simp)
  have h1 := h.hroom
  have h3 := h.hlen
  simp only [sent_Log_find_g5, sent_Log_find_g6, sent_Log_find]
  simp only [bnd_some, brV_t, brV_f, newE_u, pickE_t, pickE_f, nilV_p, faV_p, ldE_f, ldE_t, rdA_u, stE_p, cells_int, cells_bool, cells_ptr, cells_slice, cells_func, cells_agg, bin_add, bin_sub, bin_mul, bin_eql, bin_neq, bin_lss, bin_leq, bin_gtr, bin_geq, bin_eqlb, bin_neqb, bin_eqlp, bin_eqlp0, bin_neqp, bin_neqp0, bin_eqls, bin_eqls0, un_not, un_neg, len_s, ex_t, cv_i, callV_f, Option.bind_some, Option.map_some, Nat.zero_add, Nat.add_zero, Nat.reduceAdd, Nat.reduceMul, size_newB, size_setB, blk_newB_self, own_newB_self, wrA_b, own_setB_m, blk_setB_m, setB_setB, List.getElem?_toArray, List.getElem?_cons_zero, List.getElem?_cons_succ, List.length_cons, List.length_nil, List.all_cons, List.all_nil, isCell_int, isCell_bool, isCell_ptr, isCell_slice, isCell_func, Bool.and_true, Bool.and_self, and_self, if_true, List.size_toArray, and_true, true_and, Nat.reduceLeDiff, Nat.le_refl, Bool.not_true, Bool.not_false, Bool.true_and, Bool.false_and, Bool.and_false, Int.reduceBNe, Int.reduceBEq, Int.reduceLT, Int.reduceLE, decide_true, decide_false, q1, own_blk h'.log, logC_4]
  refine Search_ev (g := fun i => ((sl[i]?).map fun s => decide (n ≤ s.1.num)).getD true) (by omega) (fun i hi Q hQ => ?_) (fun i j hij hj hg => ?_) (fun k hk ha hb => ?_)
  · simp only [bnd_some, brV_t, brV_f, newE_u, pickE_t, pickE_f, nilV_p, faV_p, ldE_f, ldE_t, rdA_u, stE_p, cells_int, cells_bool, cells_ptr, cells_slice, cells_func, cells_agg, bin_add, bin_sub, bin_mul, bin_eql, bin_neq, bin_lss, bin_leq, bin_gtr, bin_geq, bin_eqlb, bin_neqb, bin_eqlp, bin_eqlp0, bin_neqp, bin_neqp0, bin_eqls, bin_eqls0, un_not, un_neg, len_s, ex_t, cv_i, callV_f, Option.bind_some, Option.map_some, Nat.zero_add, Nat.add_zero, Nat.reduceAdd, Nat.reduceMul, size_newB, size_setB, blk_newB_self, own_newB_self, wrA_b, own_setB_m, blk_setB_m, setB_setB, List.getElem?_toArray, List.getElem?_cons_zero, List.getElem?_cons_succ, List.length_cons, List.length_nil, List.all_cons, List.all_nil, isCell_int, isCell_bool, isCell_ptr, isCell_slice, isCell_func, Bool.and_true, Bool.and_self, and_self, if_true, List.size_toArray, and_true, true_and, Nat.reduceLeDiff, Nat.le_refl, Bool.not_true, Bool.not_false, Bool.true_and, Bool.false_and, Bool.and_false, Int.reduceBNe, Int.reduceBEq, Int.reduceLT, Int.reduceLE, decide_true, decide_false, Array.toList_empty, List.nil_append, List.cons_append]
    refine sent_Log_find_1_ev _ _ _ _ _ ?_
    simp only [sent_Log_find_1_g5, sent_Log_find_1_g6, sent_Log_find_1]
    simp only [bnd_some, brV_t, brV_f, newE_u, pickE_t, pickE_f, nilV_p, faV_p, ldE_f, ldE_t, rdA_u, stE_p, cells_int, cells_bool, cells_ptr, cells_slice, cells_func, cells_agg, bin_add, bin_sub, bin_mul, bin_eql, bin_neq, bin_lss, bin_leq, bin_gtr, bin_geq, bin_eqlb, bin_neqb, bin_eqlp, bin_eqlp0, bin_neqp, bin_neqp0, bin_eqls, bin_eqls0, un_not, un_neg, len_s, ex_t, cv_i, callV_f, Option.bind_some, Option.map_some, Nat.zero_add, Nat.add_zero, Nat.reduceAdd, Nat.reduceMul, size_newB, size_setB, blk_newB_self, own_newB_self, wrA_b, own_setB_m, blk_setB_m, setB_setB, List.getElem?_toArray, List.getElem?_cons_zero, List.getElem?_cons_succ, List.length_cons, List.length_nil, List.all_cons, List.all_nil, isCell_int, isCell_bool, isCell_ptr, isCell_slice, isCell_func, Bool.and_true, Bool.and_self, and_self, if_true, List.size_toArray, and_true, true_and, Nat.reduceLeDiff, Nat.le_refl, Bool.not_true, Bool.not_false, Bool.true_and, Bool.false_and, Bool.and_false, Int.reduceBNe, Int.reduceBEq, Int.reduceLT, Int.reduceLE, decide_true, decide_false, q1, q2]
    refine h'.at hi fun o c hc h0 _ _ _ => ?_
    simp only [bnd_some, brV_t, brV_f, newE_u, pickE_t, pickE_f, nilV_p, faV_p, ldE_f, ldE_t, rdA_u, stE_p, cells_int, cells_bool, cells_ptr, cells_slice, cells_func, cells_agg, bin_add, bin_sub, bin_mul, bin_eql, bin_neq, bin_lss, bin_leq, bin_gtr, bin_geq, bin_eqlb, bin_neqb, bin_eqlp, bin_eqlp0, bin_neqp, bin_neqp0, bin_eqls, bin_eqls0, un_not, un_neg, len_s, ex_t, cv_i, callV_f, Option.bind_some, Option.map_some, Nat.zero_add, Nat.add_zero, Nat.reduceAdd, Nat.reduceMul, size_newB, size_setB, blk_newB_self, own_newB_self, wrA_b, own_setB_m, blk_setB_m, setB_setB, List.getElem?_toArray, List.getElem?_cons_zero, List.getElem?_cons_succ, List.length_cons, List.length_nil, List.all_cons, List.all_nil, isCell_int, isCell_bool, isCell_ptr, isCell_slice, isCell_func, Bool.and_true, Bool.and_self, and_self, if_true, List.size_toArray, and_true, true_and, Nat.reduceLeDiff, Nat.le_refl, Bool.not_true, Bool.not_false, Bool.true_and, Bool.false_and, Bool.and_false, Int.reduceBNe, Int.reduceBEq, Int.reduceLT, Int.reduceLE, decide_true, decide_false, hc, h0, q2]
    simpa [hi] using hQ
  · have hi : i < sl.length := by omega
    simp only [List.getElem?_eq_getElem hi, List.getElem?_eq_getElem hj, Option.map_some, Option.getD_some, decide_eq_true_eq] at hg ⊢
    rcases Nat.lt_or_ge i j with h | h
    · have := hu.lt hi hj h; omega
    · have : i = j := by omega
      subst this; exact hg
  · refine hR k _ hE hk (fun i hi hik => ?_) (fun i hi hik => ?_)
    · have := ha i hik
      simp only [List.getElem?_eq_getElem hi, Option.map_some, Option.getD_some, decide_eq_false_iff_not] at this; omega
    · have := hb i hik hi
      simpa only [List.getElem?_eq_getElem hi, Option.map_some, Option.getD_some, decide_eq_true_eq] using this
end Go.Hc

/- Lists held against each other; rows of numbers; append. -/
import Derived.Test.YtchdnhbkjfdnmaaS06Room
set_option linter.unusedSimpArgs false
set_option linter.unusedVariables false
namespace Go.Hc
open Go

theorem appE_sep {A : Type} {E : Enc A} {H0 H : Heap} {Qs : List Asr} {t : TypeId} {bytes : Nat} {v w : Value} {l m : List A} {k : Value → Heap → Prop} (h : Sep H0 H (lstA E v l :: Qs)) (hw : ShowL E H w m)
    (hb : (2 * (l.length + m.length) + 200) * bytes ≤ 2 ^ 48) (hb0 : bytes ≠ 0) (hsm : l.length + m.length < 2 ^ 62)
    (hk : ∀ H' v', Sep H0 H' (lstA E v' (l ++ m) :: Qs) → k v' H') : appE t E.z E.sz bytes v w H k := by
  obtain ⟨T, ho, hn⟩ := h.get
  exact appE_l (show OwnL E H v T l from ho) hw hb hb0 hsm fun v' S' H' he hs hv' => hk H' v' (hn (lstA E v' _) H' S' he hv' hs)
theorem equal_ev {H : Heap} {v w : Value} {l m : List Pkt} {R : Value → Heap → Prop} (hv : ShowL pktE H v l) (hw : ShowL pktE H w m) (hR : R (.bool (decide (l = m))) H) : EvF P N.sounderlaw06_equal #[v, w] H R := by
  refine sounderlaw06_equal_ev _ _ _ _ ?_
  simp only [sounderlaw06_equal_g29, sounderlaw06_equal_g30, sounderlaw06_equal_g31, sounderlaw06_equal_g32, sounderlaw06_equal_g34, sounderlaw06_equal_g35, sounderlaw06_equal_g36, sounderlaw06_equal_g37, sounderlaw06_equal_g38, sounderlaw06_equal_l43, sounderlaw06_equal]
  have hsv := hv.small
  have hsw := hw.small
  simp only [bnd_some, brV_t, brV_f, newE_u, pickE_t, pickE_f, nilV_p, faV_p, cells_int, cells_bool, cells_ptr, cells_slice, cells_func, cells_agg, bin_eql, bin_neq, bin_lss, bin_leq, bin_gtr, bin_geq, bin_eqlb, bin_neqb, bin_eqlp, bin_eqlp0, bin_neqp, bin_neqp0, bin_eqls, bin_eqls0, un_not, un_neg, len_s, ex_t, cv_i, callV_f, Option.bind_some, Option.map_some, Nat.zero_add, Nat.add_zero, Nat.reduceAdd, Nat.reduceMul, size_newB, size_setB, blk_newB_self, own_newB_self, setB_setB, List.getElem?_toArray, List.getElem?_cons_zero, List.getElem?_cons_succ, List.length_cons, List.length_nil, List.all_cons, List.all_nil, isCell_int, isCell_bool, isCell_ptr, isCell_slice, isCell_func, Bool.and_true, Bool.and_self, and_self, if_true, List.size_toArray, and_true, true_and, Nat.reduceLeDiff, Nat.le_refl, Bool.not_true, Bool.not_false, Bool.true_and, Bool.false_and, Bool.and_false, Int.reduceBNe, Int.reduceBEq, Int.reduceLT, Int.reduceLE, decide_true, decide_false, hv.len, hw.len]
  refine brV_i (fun hne => ?_) (fun heq => ?_)
  · have : l ≠ m := fun e => by subst e; simp at hne
    simpa [this] using hR
  · have hlen : l.length = m.length := by have : (l.length : Int) = m.length := by simpa using heq
                                          omega
    refine ⟨fun x H' => H' = H ∧ ∃ i : Nat, x = iv i ∧ i ≤ l.length ∧ ∀ j (hj : j < l.length) (hj' : j < m.length), j < i → l[j] = m[j], fun x _ => (match x with | Value.int _ i => (l.length - i).toNat | _ => 0), ⟨rfl, 0, rfl, by omega, by omega⟩, ?_⟩
    rintro x H' ⟨rfl, i, rfl, hi, hall⟩
    simp only [sounderlaw06_equal_s33, sounderlaw06_equal_g29, sounderlaw06_equal_g30, sounderlaw06_equal_g31, sounderlaw06_equal_g32, sounderlaw06_equal_g34, sounderlaw06_equal_g35, sounderlaw06_equal_g36, sounderlaw06_equal_g37, sounderlaw06_equal_g38, sounderlaw06_equal_l43, sounderlaw06_equal]
    simp only [bnd_some, brV_t, brV_f, newE_u, pickE_t, pickE_f, nilV_p, faV_p, cells_int, cells_bool, cells_ptr, cells_slice, cells_func, cells_agg, bin_eql, bin_neq, bin_lss, bin_leq, bin_gtr, bin_geq, bin_eqlb, bin_neqb, bin_eqlp, bin_eqlp0, bin_neqp, bin_neqp0, bin_eqls, bin_eqls0, un_not, un_neg, len_s, ex_t, cv_i, callV_f, Option.bind_some, Option.map_some, Nat.zero_add, Nat.add_zero, Nat.reduceAdd, Nat.reduceMul, size_newB, size_setB, blk_newB_self, own_newB_self, setB_setB, List.getElem?_toArray, List.getElem?_cons_zero, List.getElem?_cons_succ, List.length_cons, List.length_nil, List.all_cons, List.all_nil, isCell_int, isCell_bool, isCell_ptr, isCell_slice, isCell_func, Bool.and_true, Bool.and_self, and_self, if_true, List.size_toArray, and_true, true_and, Nat.reduceLeDiff, Nat.le_refl, Bool.not_true, Bool.not_false, Bool.true_and, Bool.false_and, Bool.and_false, Int.reduceBNe, Int.reduceBEq, Int.reduceLT, Int.reduceLE, decide_true, decide_false, hv.len]
    refine brV_d (fun hlt => ?_) (fun hlt => ?_)
    · have hil : i < l.length := by omega
      have him : i < m.length := by omega
      obtain ⟨_, _, _, hx, _, _, hl⟩ := hv.ix (by decide) hil (j := i) rfl
      obtain ⟨_, _, _, hy, _, _, hm⟩ := hw.ix (by decide) him (j := i) rfl
      have hx' : ixSV 6 v (iv i) = _ := hx
      have hy' : ixSV 6 w (iv i) = _ := hy
      have hl' : ldE true 6 _ H' = some (pv l[i]) := hl
      have hm' : ldE true 6 _ H' = some (pv m[i]) := hm
      have w1 : binV .int .add (iv i) (.int .i64 1) = some (iv ((i + 1 : Nat) : Int)) := by rw [bin_addw (by omega)]; rfl
      simp only [bnd_some, brV_t, brV_f, newE_u, pickE_t, pickE_f, nilV_p, faV_p, cells_int, cells_bool, cells_ptr, cells_slice, cells_func, cells_agg, bin_eql, bin_neq, bin_lss, bin_leq, bin_gtr, bin_geq, bin_eqlb, bin_neqb, bin_eqlp, bin_eqlp0, bin_neqp, bin_neqp0, bin_eqls, bin_eqls0, un_not, un_neg, len_s, ex_t, cv_i, callV_f, Option.bind_some, Option.map_some, Nat.zero_add, Nat.add_zero, Nat.reduceAdd, Nat.reduceMul, size_newB, size_setB, blk_newB_self, own_newB_self, setB_setB, List.getElem?_toArray, List.getElem?_cons_zero, List.getElem?_cons_succ, List.length_cons, List.length_nil, List.all_cons, List.all_nil, isCell_int, isCell_bool, isCell_ptr, isCell_slice, isCell_func, Bool.and_true, Bool.and_self, and_self, if_true, List.size_toArray, and_true, true_and, Nat.reduceLeDiff, Nat.le_refl, Bool.not_true, Bool.not_false, Bool.true_and, Bool.false_and, Bool.and_false, Int.reduceBNe, Int.reduceBEq, Int.reduceLT, Int.reduceLE, decide_true, decide_false, hx', hy', hl', hm', bin_neP]
      refine brV_i (fun hne => ?_) (fun heq => ?_)
      · have h1 : l[i] ≠ m[i] := by simpa using hne
        have : l ≠ m := fun e => by subst e; exact h1 rfl
        simpa [this] using hR
      · have h1 : l[i] = m[i] := by simpa using heq
        simp only [w1, bnd_some]
        refine ⟨⟨i + 1, rfl, by omega, fun j hj hj' hji => ?_⟩, by omega⟩
        rcases Nat.lt_or_ge j i with h2 | h2
        · exact hall j hj hj' h2
        · have : j = i := by omega
          subst this; exact h1
    · have : l = m := List.ext_getElem hlen fun j hj hj' => hall j hj hj' (by omega)
      simpa [this] using hR

structure Row where
  kind : Int
  n : Int
  size : Int
  bits : Int
def rowC (x : Row) : Array Value := #[iv x.kind, iv x.n, iv x.size, iv x.bits]
def rowE : Enc Row := ⟨4, rowC ⟨0, 0, 0, 0⟩, rowC, fun _ => rfl, rfl, fun _ => by simp [rowC, isCell], by simp [rowC, isCell]⟩
def InRow (x : Row) : Prop := In64 x.kind ∧ In64 x.n ∧ In64 x.size ∧ In64 x.bits
end Go.Hc

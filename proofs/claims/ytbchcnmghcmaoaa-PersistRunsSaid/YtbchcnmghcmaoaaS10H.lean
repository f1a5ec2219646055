/- The lists and the sets which the laws make. -/
import Derived.Test.YtbchcnmghcmaoaaS10G
import Derived.Test.YtbchcnmghcmaoaaHcU
set_option linter.unusedSimpArgs false
set_option linter.unusedVariables false
namespace Go.Hc
open Go

theorem st_el {K : Heap} {x : Nat} {p : Pkt} {b : Bool} (ho : own K x = some (pktC p)) : stE 1 (.pointer (some ⟨x, 3, none⟩)) (.bool b) K = some (setB K x (pktC { p with el := b })) := by
  rw [stE_p, show (Value.bool b).cells = #[.bool b] from rfl, if_pos (show (#[Value.bool b] : Array Value).size = 1 from rfl), wrA_b, ho]
  have h1 : splice (pktC p) 3 (#[Value.bool b] : Array Value).toList = pktC { p with el := b } := rfl
  simp only [Option.bind_some, h1, pktC_s]
  simp [isCell]
structure Mk (k : Nat) (n t : Int) (out : List Pkt) : Prop where
  hn : 0 ≤ n ∧ n ≤ 3 * k
  ht : 0 ≤ t ∧ t ≤ k * 17179869184
  len : out.length = k
  each : ∀ p ∈ out, 0 ≤ p.num ∧ p.num ≤ n ∧ 0 ≤ p.time ∧ p.time ≤ t ∧ p.size = 100
  up : out.Pairwise fun a b => a.num < b.num ∧ a.time ≤ b.time
theorem Mk.next {k : Nat} {n t a b : Int} {out : List Pkt} {p : Pkt} (h : Mk k n t out) (ha : 0 ≤ a ∧ a < 3) (hb : 0 ≤ b ∧ b < 17179869184) (hp : p.num = n + 1 + a ∧ p.time = t + b ∧ p.size = 100) : Mk (k + 1) (n + 1 + a) (t + b) (out ++ [p]) := by
  have h1 := h.hn
  have h2 := h.ht
  refine ⟨by omega, by omega, by simp [h.len], fun q hq => ?_, ?_⟩
  · rcases List.mem_append.1 hq with hq | hq
    · have := h.each q hq; omega
    · rw [List.mem_singleton] at hq; subst hq; omega
  · refine List.pairwise_append.2 ⟨h.up, by simp, fun x hx y hy => ?_⟩
    rw [List.mem_singleton] at hy; subst hy
    have := h.each x hx; omega
theorem Mk.rise {k : Nat} {n t : Int} {out : List Pkt} (h : Mk k n t out) (hk : k ≤ 40) : Rise out :=
  ⟨by rw [h.len]; exact hk, fun p hp => by have h1 := h.each p hp; have h2 := h.hn; have h3 := h.ht; omega, h.up⟩
theorem made_ev {H : Heap} {v : Value} {l : List (Fin 3 → Int)} {R : Value → Heap → Prop} (hv : ShowA (intsE 3) H v l) (hin : ∀ y ∈ l, ∀ i, In64 (y i))
    (hR : ∀ H' v' ps, Ext [] H H' → ShowA pktE H' v' ps → CutOK v' → Rise ps → R v' H') : EvF P N.sounderlaw10_made #[v] H R := by
  refine sounderlaw10_made_ev _ _ _ ?_
  have hsm := hv.small
  simp only [sounderlaw10_made, sounderlaw10_made_g29, sounderlaw10_made_g30, sounderlaw10_made_g31, sounderlaw10_made_g32]
  simp only [sounderlaw10_made_l45]
  have s0 : Sep H H [lstA pktE (.slice none 0 0) []] := (Sep.nil H).new (Ext.refl _ _) (Q := lstA pktE (.slice none 0 0) []) (T := []) .nil (by simp)
  refine ⟨fun x3 x4 x5 x6 K => ∃ (k : Nat) (n t : Int) (out : List Pkt), x4 = iv n ∧ x5 = iv t ∧ x6 = iv k ∧ k ≤ l.length ∧ k ≤ 40 ∧ Mk k n t out ∧ Sep H K [lstA pktE x3 out],
    fun _ _ _ x _ => (match x with | .int _ k => (41 - k).toNat | _ => 0), ⟨0, 0, 0, [], rfl, rfl, rfl, by omega, by omega, ⟨by omega, by omega, rfl, by simp, by simp⟩, s0⟩, ?_⟩
  rintro x3 x4 x5 x6 K ⟨k, n, t, out, rfl, rfl, rfl, hkl, hk40, hm, hs⟩
  have hvK := hv.ext hs.only
  simp only [sounderlaw10_made_s33, sounderlaw10_made_g34]
  try simp only [bnd_some, brV_t, brV_f, brG_t, brG_f, newE_u, pickE_t, pickE_f, nilV_p, faV_p, cells_int, cells_bool, cells_ptr, cells_slice, cells_func, cells_agg, bin_eql, bin_neq, bin_lss, bin_leq, bin_gtr, bin_geq, bin_eqlb, bin_neqb, bin_eqlp, bin_eqlp0, bin_neqp, bin_neqp0, bin_eqls, bin_eqls0, un_not, un_neg, len_s, cap_s, ex_t, cv_i, callV_f, Option.bind_some, Option.map_some, Nat.zero_add, Nat.add_zero, Nat.reduceAdd, Nat.reduceMul, size_newB, size_setB, blk_newB_self, own_newB_self, setB_setB, List.getElem?_toArray, List.getElem?_cons_zero, List.getElem?_cons_succ, List.length_cons, List.length_nil, List.all_cons, List.all_nil, isCell_int, isCell_bool, isCell_ptr, isCell_slice, isCell_func, Bool.and_true, Bool.and_self, and_self, if_true, List.size_toArray, and_true, true_and, Nat.reduceLeDiff, Nat.le_refl, Bool.not_true, Bool.not_false, Bool.true_and, Bool.false_and, Bool.and_false, Int.reduceBNe, Int.reduceBEq, Int.reduceLT, Int.reduceLE, decide_true, decide_false, hvK.len]
  have fin : sounderlaw10_made_g40 (fun x2 H => R x2 H) x3 K := by
    obtain ⟨T, ho⟩ := hs.list
    simp only [sounderlaw10_made_g40]
    exact hR K x3 out hs.only ho.showA (CutOK.of_own ho) (hm.rise hk40)
  refine brV_d (fun hlt => ?_) (fun hge => ?_)
  · try simp only [bnd_some, brV_t, brV_f, brG_t, brG_f, newE_u, pickE_t, pickE_f, nilV_p, faV_p, cells_int, cells_bool, cells_ptr, cells_slice, cells_func, cells_agg, bin_eql, bin_neq, bin_lss, bin_leq, bin_gtr, bin_geq, bin_eqlb, bin_neqb, bin_eqlp, bin_eqlp0, bin_neqp, bin_neqp0, bin_eqls, bin_eqls0, un_not, un_neg, len_s, cap_s, ex_t, cv_i, callV_f, Option.bind_some, Option.map_some, Nat.zero_add, Nat.add_zero, Nat.reduceAdd, Nat.reduceMul, size_newB, size_setB, blk_newB_self, own_newB_self, setB_setB, List.getElem?_toArray, List.getElem?_cons_zero, List.getElem?_cons_succ, List.length_cons, List.length_nil, List.all_cons, List.all_nil, isCell_int, isCell_bool, isCell_ptr, isCell_slice, isCell_func, Bool.and_true, Bool.and_self, and_self, if_true, List.size_toArray, and_true, true_and, Nat.reduceLeDiff, Nat.le_refl, Bool.not_true, Bool.not_false, Bool.true_and, Bool.false_and, Bool.and_false, Int.reduceBNe, Int.reduceBEq, Int.reduceLT, Int.reduceLE, decide_true, decide_false]
    refine brV_d (fun hlt2 => ?_) (fun hge2 => ?_)
    · have hk' : k < l.length := by omega
      have hn := hm.hn
      have ht := hm.ht
      obtain ⟨b, o, c, i1, i2, i3, _⟩ := hvK.ix (by decide) hk' (rfl : (k : Int) = k)
      have i1' : ixSV 3 v (iv k) = _ := i1
      have i30 : c[o]? = some (iv (l[k] 0)) := (i3 0 (by decide)).trans (intsE_at (by decide))
      have i31 : c[o + 1]? = some (iv (l[k] 1)) := (i3 1 (by decide)).trans (intsE_at (by decide))
      have i32 : c[o + 2]? = some (iv (l[k] 2)) := (i3 2 (by decide)).trans (intsE_at (by decide))
      have hy := hin _ (List.getElem_mem hk')
      have w1 : IntKind.i64.wrap (n + 1) = n + 1 := wrap_in (by omega)
      simp only [sounderlaw10_made_g35]
      try simp only [bnd_some, brV_t, brV_f, brG_t, brG_f, newE_u, pickE_t, pickE_f, nilV_p, faV_p, cells_int, cells_bool, cells_ptr, cells_slice, cells_func, cells_agg, bin_eql, bin_neq, bin_lss, bin_leq, bin_gtr, bin_geq, bin_eqlb, bin_neqb, bin_eqlp, bin_eqlp0, bin_neqp, bin_neqp0, bin_eqls, bin_eqls0, un_not, un_neg, len_s, cap_s, ex_t, cv_i, callV_f, Option.bind_some, Option.map_some, Nat.zero_add, Nat.add_zero, Nat.reduceAdd, Nat.reduceMul, size_newB, size_setB, blk_newB_self, own_newB_self, setB_setB, List.getElem?_toArray, List.getElem?_cons_zero, List.getElem?_cons_succ, List.length_cons, List.length_nil, List.all_cons, List.all_nil, isCell_int, isCell_bool, isCell_ptr, isCell_slice, isCell_func, Bool.and_true, Bool.and_self, and_self, if_true, List.size_toArray, and_true, true_and, Nat.reduceLeDiff, Nat.le_refl, Bool.not_true, Bool.not_false, Bool.true_and, Bool.false_and, Bool.and_false, Int.reduceBNe, Int.reduceBEq, Int.reduceLT, Int.reduceLE, decide_true, decide_false, i1', ldE_f, i2, i30, i31, Option.bind_some, bin_add, w1]
      refine Bring_ev (hy 0) (by decide) ?_
      have b1 := bring_r (i := l[k] 0) (n := 3) (by decide)
      obtain ⟨a, ha⟩ : ∃ a, a = bring (l[k] 0) 3 := ⟨_, rfl⟩
      rw [← ha] at b1 ⊢
      have w2 : IntKind.i64.wrap (n + 1 + a) = n + 1 + a := wrap_in (by omega)
      try simp only [bnd_some, brV_t, brV_f, brG_t, brG_f, newE_u, pickE_t, pickE_f, nilV_p, faV_p, cells_int, cells_bool, cells_ptr, cells_slice, cells_func, cells_agg, bin_eql, bin_neq, bin_lss, bin_leq, bin_gtr, bin_geq, bin_eqlb, bin_neqb, bin_eqlp, bin_eqlp0, bin_neqp, bin_neqp0, bin_eqls, bin_eqls0, un_not, un_neg, len_s, cap_s, ex_t, cv_i, callV_f, Option.bind_some, Option.map_some, Nat.zero_add, Nat.add_zero, Nat.reduceAdd, Nat.reduceMul, size_newB, size_setB, blk_newB_self, own_newB_self, setB_setB, List.getElem?_toArray, List.getElem?_cons_zero, List.getElem?_cons_succ, List.length_cons, List.length_nil, List.all_cons, List.all_nil, isCell_int, isCell_bool, isCell_ptr, isCell_slice, isCell_func, Bool.and_true, Bool.and_self, and_self, if_true, List.size_toArray, and_true, true_and, Nat.reduceLeDiff, Nat.le_refl, Bool.not_true, Bool.not_false, Bool.true_and, Bool.false_and, Bool.and_false, Int.reduceBNe, Int.reduceBEq, Int.reduceLT, Int.reduceLE, decide_true, decide_false, ldE_f, i2, i31, Option.bind_some, bin_add, w2]
      refine Bring_ev (hy 1) (by decide) ?_
      have b2 := bring_r (i := l[k] 1) (n := 17179869184) (by decide)
      obtain ⟨d, hd⟩ : ∃ d, d = bring (l[k] 1) 17179869184 := ⟨_, rfl⟩
      rw [← hd] at b2 ⊢
      have w3 : IntKind.i64.wrap (t + d) = t + d := wrap_in (by omega)
      try simp only [bnd_some, brV_t, brV_f, brG_t, brG_f, newE_u, pickE_t, pickE_f, nilV_p, faV_p, cells_int, cells_bool, cells_ptr, cells_slice, cells_func, cells_agg, bin_eql, bin_neq, bin_lss, bin_leq, bin_gtr, bin_geq, bin_eqlb, bin_neqb, bin_eqlp, bin_eqlp0, bin_neqp, bin_neqp0, bin_eqls, bin_eqls0, un_not, un_neg, len_s, cap_s, ex_t, cv_i, callV_f, Option.bind_some, Option.map_some, Nat.zero_add, Nat.add_zero, Nat.reduceAdd, Nat.reduceMul, size_newB, size_setB, blk_newB_self, own_newB_self, setB_setB, List.getElem?_toArray, List.getElem?_cons_zero, List.getElem?_cons_succ, List.length_cons, List.length_nil, List.all_cons, List.all_nil, isCell_int, isCell_bool, isCell_ptr, isCell_slice, isCell_func, Bool.and_true, Bool.and_self, and_self, if_true, List.size_toArray, and_true, true_and, Nat.reduceLeDiff, Nat.le_refl, Bool.not_true, Bool.not_false, Bool.true_and, Bool.false_and, Bool.and_false, Int.reduceBNe, Int.reduceBEq, Int.reduceLT, Int.reduceLE, decide_true, decide_false, bin_add, w3]
      simp only [sounderlaw10_made_g36]
      refine at_ev fun K1 e1 => ?_
      try simp only [bnd_some, brV_t, brV_f, brG_t, brG_f, newE_u, pickE_t, pickE_f, nilV_p, faV_p, cells_int, cells_bool, cells_ptr, cells_slice, cells_func, cells_agg, bin_eql, bin_neq, bin_lss, bin_leq, bin_gtr, bin_geq, bin_eqlb, bin_neqb, bin_eqlp, bin_eqlp0, bin_neqp, bin_neqp0, bin_eqls, bin_eqls0, un_not, un_neg, len_s, cap_s, ex_t, cv_i, callV_f, Option.bind_some, Option.map_some, Nat.zero_add, Nat.add_zero, Nat.reduceAdd, Nat.reduceMul, size_newB, size_setB, blk_newB_self, own_newB_self, setB_setB, List.getElem?_toArray, List.getElem?_cons_zero, List.getElem?_cons_succ, List.length_cons, List.length_nil, List.all_cons, List.all_nil, isCell_int, isCell_bool, isCell_ptr, isCell_slice, isCell_func, Bool.and_true, Bool.and_self, and_self, if_true, List.size_toArray, and_true, true_and, Nat.reduceLeDiff, Nat.le_refl, Bool.not_true, Bool.not_false, Bool.true_and, Bool.false_and, Bool.and_false, Int.reduceBNe, Int.reduceBEq, Int.reduceLT, Int.reduceLE, decide_true, decide_false, pkt0_C, st_pkt]
      generalize hK2 : setB (newB K1 _ _) _ _ = K2
      have e2 : Ext [] K1 K2 := by rw [← hK2]; exact box_new.1
      have q2 : own K2 K1.size = some (pktC (atP (n + 1 + a) (t + d))) := by rw [← hK2]; exact box_new.2.1
      have E2 := e1.trans e2
      have i2' := E2.blk i2 (by simp)
      simp only [sounderlaw10_made_g37]
      try simp only [bnd_some, brV_t, brV_f, brG_t, brG_f, newE_u, pickE_t, pickE_f, nilV_p, faV_p, cells_int, cells_bool, cells_ptr, cells_slice, cells_func, cells_agg, bin_eql, bin_neq, bin_lss, bin_leq, bin_gtr, bin_geq, bin_eqlb, bin_neqb, bin_eqlp, bin_eqlp0, bin_neqp, bin_neqp0, bin_eqls, bin_eqls0, un_not, un_neg, len_s, cap_s, ex_t, cv_i, callV_f, Option.bind_some, Option.map_some, Nat.zero_add, Nat.add_zero, Nat.reduceAdd, Nat.reduceMul, size_newB, size_setB, blk_newB_self, own_newB_self, setB_setB, List.getElem?_toArray, List.getElem?_cons_zero, List.getElem?_cons_succ, List.length_cons, List.length_nil, List.all_cons, List.all_nil, isCell_int, isCell_bool, isCell_ptr, isCell_slice, isCell_func, Bool.and_true, Bool.and_self, and_self, if_true, List.size_toArray, and_true, true_and, Nat.reduceLeDiff, Nat.le_refl, Bool.not_true, Bool.not_false, Bool.true_and, Bool.false_and, Bool.and_false, Int.reduceBNe, Int.reduceBEq, Int.reduceLT, Int.reduceLE, decide_true, decide_false, i1', ldE_f, i2', i32, Option.bind_some]
      refine Bring_ev (hy 2) (by decide) ?_
      obtain ⟨f, hf⟩ : ∃ f, f = bring (l[k] 2) 4 := ⟨_, rfl⟩
      rw [← hf]
      try simp only [bnd_some, brV_t, brV_f, brG_t, brG_f, newE_u, pickE_t, pickE_f, nilV_p, faV_p, cells_int, cells_bool, cells_ptr, cells_slice, cells_func, cells_agg, bin_eql, bin_neq, bin_lss, bin_leq, bin_gtr, bin_geq, bin_eqlb, bin_neqb, bin_eqlp, bin_eqlp0, bin_neqp, bin_neqp0, bin_eqls, bin_eqls0, un_not, un_neg, len_s, cap_s, ex_t, cv_i, callV_f, Option.bind_some, Option.map_some, Nat.zero_add, Nat.add_zero, Nat.reduceAdd, Nat.reduceMul, size_newB, size_setB, blk_newB_self, own_newB_self, setB_setB, List.getElem?_toArray, List.getElem?_cons_zero, List.getElem?_cons_succ, List.length_cons, List.length_nil, List.all_cons, List.all_nil, isCell_int, isCell_bool, isCell_ptr, isCell_slice, isCell_func, Bool.and_true, Bool.and_self, and_self, if_true, List.size_toArray, and_true, true_and, Nat.reduceLeDiff, Nat.le_refl, Bool.not_true, Bool.not_false, Bool.true_and, Bool.false_and, Bool.and_false, Int.reduceBNe, Int.reduceBEq, Int.reduceLT, Int.reduceLE, decide_true, decide_false, st_el q2]
      generalize hK3 : setB K2 K1.size _ = K3
      have e3 : Ext [] K K3 := by rw [← hK3]; exact E2.setB _ _ (Or.inr e1.size)
      obtain ⟨p, hp, q3⟩ : ∃ p : Pkt, (p.num = n + 1 + a ∧ p.time = t + d ∧ p.size = 100) ∧ own K3 K1.size = some (pktC p) := ⟨_, ⟨rfl, rfl, rfl⟩, by rw [← hK3]; exact own_setB_same q2⟩
      have hs3 := hs.ext e3
      simp only [sounderlaw10_made_g38]
      try simp only [bnd_some, brV_t, brV_f, brG_t, brG_f, newE_u, pickE_t, pickE_f, nilV_p, faV_p, cells_int, cells_bool, cells_ptr, cells_slice, cells_func, cells_agg, bin_eql, bin_neq, bin_lss, bin_leq, bin_gtr, bin_geq, bin_eqlb, bin_neqb, bin_eqlp, bin_eqlp0, bin_neqp, bin_neqp0, bin_eqls, bin_eqls0, un_not, un_neg, len_s, cap_s, ex_t, cv_i, callV_f, Option.bind_some, Option.map_some, Nat.zero_add, Nat.add_zero, Nat.reduceAdd, Nat.reduceMul, size_newB, size_setB, blk_newB_self, own_newB_self, setB_setB, List.getElem?_toArray, List.getElem?_cons_zero, List.getElem?_cons_succ, List.length_cons, List.length_nil, List.all_cons, List.all_nil, isCell_int, isCell_bool, isCell_ptr, isCell_slice, isCell_func, Bool.and_true, Bool.and_self, and_self, if_true, List.size_toArray, and_true, true_and, Nat.reduceLeDiff, Nat.le_refl, Bool.not_true, Bool.not_false, Bool.true_and, Bool.false_and, Bool.and_false, Int.reduceBNe, Int.reduceBEq, Int.reduceLT, Int.reduceLE, decide_true, decide_false, ldE_t, rdA_u, own_blk q3, pktC_g, pkt0_C]
      refine bslE_1 (E := pktE) (a := p) rfl (fun K4 _ e4 o4 => ?_) (by decide)
      refine appE_sep (E := pktE) (l := out) (m := [p]) (hs3.ext e4) o4.show (by have := hm.len; simp; omega) (by decide) (by have := hm.len; simp; omega) fun K5 v5 h5 => ?_
      have w5 : IntKind.i64.wrap ((k : Int) + 1) = ((k + 1 : Nat) : Int) := by rw [wrap_in (by omega)]; omega
      simp only [sounderlaw10_made_g39]
      try simp only [bnd_some, brV_t, brV_f, brG_t, brG_f, newE_u, pickE_t, pickE_f, nilV_p, faV_p, cells_int, cells_bool, cells_ptr, cells_slice, cells_func, cells_agg, bin_eql, bin_neq, bin_lss, bin_leq, bin_gtr, bin_geq, bin_eqlb, bin_neqb, bin_eqlp, bin_eqlp0, bin_neqp, bin_neqp0, bin_eqls, bin_eqls0, un_not, un_neg, len_s, cap_s, ex_t, cv_i, callV_f, Option.bind_some, Option.map_some, Nat.zero_add, Nat.add_zero, Nat.reduceAdd, Nat.reduceMul, size_newB, size_setB, blk_newB_self, own_newB_self, setB_setB, List.getElem?_toArray, List.getElem?_cons_zero, List.getElem?_cons_succ, List.length_cons, List.length_nil, List.all_cons, List.all_nil, isCell_int, isCell_bool, isCell_ptr, isCell_slice, isCell_func, Bool.and_true, Bool.and_self, and_self, if_true, List.size_toArray, and_true, true_and, Nat.reduceLeDiff, Nat.le_refl, Bool.not_true, Bool.not_false, Bool.true_and, Bool.false_and, Bool.and_false, Int.reduceBNe, Int.reduceBEq, Int.reduceLT, Int.reduceLE, decide_true, decide_false, bin_add, w5]
      exact ⟨⟨k + 1, n + 1 + a, t + d, out ++ [p], rfl, rfl, rfl, by omega, by omega, hm.next b1 b2 hp, h5⟩, by show _ < _; omega⟩
    · exact fin
  · try simp only [bnd_some, brV_t, brV_f, brG_t, brG_f, newE_u, pickE_t, pickE_f, nilV_p, faV_p, cells_int, cells_bool, cells_ptr, cells_slice, cells_func, cells_agg, bin_eql, bin_neq, bin_lss, bin_leq, bin_gtr, bin_geq, bin_eqlb, bin_neqb, bin_eqlp, bin_eqlp0, bin_neqp, bin_neqp0, bin_eqls, bin_eqls0, un_not, un_neg, len_s, cap_s, ex_t, cv_i, callV_f, Option.bind_some, Option.map_some, Nat.zero_add, Nat.add_zero, Nat.reduceAdd, Nat.reduceMul, size_newB, size_setB, blk_newB_self, own_newB_self, setB_setB, List.getElem?_toArray, List.getElem?_cons_zero, List.getElem?_cons_succ, List.length_cons, List.length_nil, List.all_cons, List.all_nil, isCell_int, isCell_bool, isCell_ptr, isCell_slice, isCell_func, Bool.and_true, Bool.and_self, and_self, if_true, List.size_toArray, and_true, true_and, Nat.reduceLeDiff, Nat.le_refl, Bool.not_true, Bool.not_false, Bool.true_and, Bool.false_and, Bool.and_false, Int.reduceBNe, Int.reduceBEq, Int.reduceLT, Int.reduceLE, decide_true, decide_false]
    exact fin
theorem marks_ev {H : Heap} {v : Value} {l : List Int} {R : Value → Heap → Prop} (hv : ShowA intE H v l) (hin : ∀ y ∈ l, In64 y)
    (hR : ∀ H' s rs, Ext [] H H' → Sep H H' [setA s 256 rs] → (∀ n, Mem rs n ↔ ∃ x ∈ l.take 40, bring x 200 = n) → R (ptr s) H') : EvF P N.sounderlaw10_marks #[v] H R := by
  refine sounderlaw10_marks_ev _ _ _ ?_
  have hsm := hv.small
  simp only [sounderlaw10_marks, sounderlaw10_marks_g23, sounderlaw10_marks_g24, sounderlaw10_marks_g25]
  refine sounderlaw10_set_ev _ _ _ ?_
  simp only [sounderlaw10_set, sounderlaw10_set_g21, sounderlaw10_set_g22, sounderlaw10_set_g23]
  refine new_s (Sep.nil H) (by decide) fun s H1 h1 => ?_
  try simp only [bnd_some, brV_t, brV_f, brG_t, brG_f, newE_u, pickE_t, pickE_f, nilV_p, faV_p, cells_int, cells_bool, cells_ptr, cells_slice, cells_func, cells_agg, bin_eql, bin_neq, bin_lss, bin_leq, bin_gtr, bin_geq, bin_eqlb, bin_neqb, bin_eqlp, bin_eqlp0, bin_neqp, bin_neqp0, bin_eqls, bin_eqls0, un_not, un_neg, len_s, cap_s, ex_t, cv_i, callV_f, Option.bind_some, Option.map_some, Nat.zero_add, Nat.add_zero, Nat.reduceAdd, Nat.reduceMul, size_newB, size_setB, blk_newB_self, own_newB_self, setB_setB, List.getElem?_toArray, List.getElem?_cons_zero, List.getElem?_cons_succ, List.length_cons, List.length_nil, List.all_cons, List.all_nil, isCell_int, isCell_bool, isCell_ptr, isCell_slice, isCell_func, Bool.and_true, Bool.and_self, and_self, if_true, List.size_toArray, and_true, true_and, Nat.reduceLeDiff, Nat.le_refl, Bool.not_true, Bool.not_false, Bool.true_and, Bool.false_and, Bool.and_false, Int.reduceBNe, Int.reduceBEq, Int.reduceLT, Int.reduceLE, decide_true, decide_false]
  simp only [sounderlaw10_set_l33]
  refine ⟨fun x K => x = iv 0 ∧ K = H1, fun x _ => 0, ⟨rfl, rfl⟩, ?_⟩
  rintro x K ⟨rfl, rfl⟩
  simp only [sounderlaw10_set_s24, sounderlaw10_set_g25, sounderlaw10_set_g28]
  try simp only [bnd_some, brV_t, brV_f, brG_t, brG_f, newE_u, pickE_t, pickE_f, nilV_p, faV_p, cells_int, cells_bool, cells_ptr, cells_slice, cells_func, cells_agg, bin_eql, bin_neq, bin_lss, bin_leq, bin_gtr, bin_geq, bin_eqlb, bin_neqb, bin_eqlp, bin_eqlp0, bin_neqp, bin_neqp0, bin_eqls, bin_eqls0, un_not, un_neg, len_s, cap_s, ex_t, cv_i, callV_f, Option.bind_some, Option.map_some, Nat.zero_add, Nat.add_zero, Nat.reduceAdd, Nat.reduceMul, size_newB, size_setB, blk_newB_self, own_newB_self, setB_setB, List.getElem?_toArray, List.getElem?_cons_zero, List.getElem?_cons_succ, List.length_cons, List.length_nil, List.all_cons, List.all_nil, isCell_int, isCell_bool, isCell_ptr, isCell_slice, isCell_func, Bool.and_true, Bool.and_self, and_self, if_true, List.size_toArray, and_true, true_and, Nat.reduceLeDiff, Nat.le_refl, Bool.not_true, Bool.not_false, Bool.true_and, Bool.false_and, Bool.and_false, Int.reduceBNe, Int.reduceBEq, Int.reduceLT, Int.reduceLE, decide_true, decide_false]
  simp only [sounderlaw10_marks_l36]
  refine ⟨fun x K => ∃ (k : Nat) (rs : List Rng), x = iv k ∧ k ≤ l.length ∧ k ≤ 40 ∧ rs.length ≤ k ∧ (∀ n, Mem rs n ↔ ∃ x ∈ l.take k, bring x 200 = n) ∧ Sep H K [setA s 256 rs],
    fun x _ => (match x with | .int _ k => (41 - k).toNat | _ => 0), ⟨0, [], rfl, by omega, by omega, by simp, fun n => by simp [Mem], h1⟩, ?_⟩
  rintro x K ⟨k, rs, rfl, hkl, hk40, hlen, hmem, hs⟩
  have hvK := hv.ext hs.only
  simp only [sounderlaw10_marks_s26, sounderlaw10_marks_g27]
  try simp only [bnd_some, brV_t, brV_f, brG_t, brG_f, newE_u, pickE_t, pickE_f, nilV_p, faV_p, cells_int, cells_bool, cells_ptr, cells_slice, cells_func, cells_agg, bin_eql, bin_neq, bin_lss, bin_leq, bin_gtr, bin_geq, bin_eqlb, bin_neqb, bin_eqlp, bin_eqlp0, bin_neqp, bin_neqp0, bin_eqls, bin_eqls0, un_not, un_neg, len_s, cap_s, ex_t, cv_i, callV_f, Option.bind_some, Option.map_some, Nat.zero_add, Nat.add_zero, Nat.reduceAdd, Nat.reduceMul, size_newB, size_setB, blk_newB_self, own_newB_self, setB_setB, List.getElem?_toArray, List.getElem?_cons_zero, List.getElem?_cons_succ, List.length_cons, List.length_nil, List.all_cons, List.all_nil, isCell_int, isCell_bool, isCell_ptr, isCell_slice, isCell_func, Bool.and_true, Bool.and_self, and_self, if_true, List.size_toArray, and_true, true_and, Nat.reduceLeDiff, Nat.le_refl, Bool.not_true, Bool.not_false, Bool.true_and, Bool.false_and, Bool.and_false, Int.reduceBNe, Int.reduceBEq, Int.reduceLT, Int.reduceLE, decide_true, decide_false, hvK.len]
  have fin : l.take k = l.take 40 → sounderlaw10_marks_g31 (fun x2 H => R x2 H) (ptr s) K := fun e => by
    simp only [sounderlaw10_marks_g31]
    exact hR K s rs hs.only hs (by rw [← e]; exact hmem)
  refine brV_d (fun hlt => ?_) (fun hge => ?_)
  · try simp only [bnd_some, brV_t, brV_f, brG_t, brG_f, newE_u, pickE_t, pickE_f, nilV_p, faV_p, cells_int, cells_bool, cells_ptr, cells_slice, cells_func, cells_agg, bin_eql, bin_neq, bin_lss, bin_leq, bin_gtr, bin_geq, bin_eqlb, bin_neqb, bin_eqlp, bin_eqlp0, bin_neqp, bin_neqp0, bin_eqls, bin_eqls0, un_not, un_neg, len_s, cap_s, ex_t, cv_i, callV_f, Option.bind_some, Option.map_some, Nat.zero_add, Nat.add_zero, Nat.reduceAdd, Nat.reduceMul, size_newB, size_setB, blk_newB_self, own_newB_self, setB_setB, List.getElem?_toArray, List.getElem?_cons_zero, List.getElem?_cons_succ, List.length_cons, List.length_nil, List.all_cons, List.all_nil, isCell_int, isCell_bool, isCell_ptr, isCell_slice, isCell_func, Bool.and_true, Bool.and_self, and_self, if_true, List.size_toArray, and_true, true_and, Nat.reduceLeDiff, Nat.le_refl, Bool.not_true, Bool.not_false, Bool.true_and, Bool.false_and, Bool.and_false, Int.reduceBNe, Int.reduceBEq, Int.reduceLT, Int.reduceLE, decide_true, decide_false]
    refine brV_d (fun hlt2 => ?_) (fun hge2 => ?_)
    · have hk' : k < l.length := by omega
      obtain ⟨b, o, c, i1, i2, i3, _⟩ := hvK.ix (by decide) hk' (rfl : (k : Int) = k)
      have i1' : ixSV 1 v (iv k) = _ := i1
      have i30 : c[o]? = some (iv l[k]) := i3 0 (by decide)
      have w5 : IntKind.i64.wrap ((k : Int) + 1) = ((k + 1 : Nat) : Int) := by rw [wrap_in (by omega)]; omega
      simp only [sounderlaw10_marks_g28]
      try simp only [bnd_some, brV_t, brV_f, brG_t, brG_f, newE_u, pickE_t, pickE_f, nilV_p, faV_p, cells_int, cells_bool, cells_ptr, cells_slice, cells_func, cells_agg, bin_eql, bin_neq, bin_lss, bin_leq, bin_gtr, bin_geq, bin_eqlb, bin_neqb, bin_eqlp, bin_eqlp0, bin_neqp, bin_neqp0, bin_eqls, bin_eqls0, un_not, un_neg, len_s, cap_s, ex_t, cv_i, callV_f, Option.bind_some, Option.map_some, Nat.zero_add, Nat.add_zero, Nat.reduceAdd, Nat.reduceMul, size_newB, size_setB, blk_newB_self, own_newB_self, setB_setB, List.getElem?_toArray, List.getElem?_cons_zero, List.getElem?_cons_succ, List.length_cons, List.length_nil, List.all_cons, List.all_nil, isCell_int, isCell_bool, isCell_ptr, isCell_slice, isCell_func, Bool.and_true, Bool.and_self, and_self, if_true, List.size_toArray, and_true, true_and, Nat.reduceLeDiff, Nat.le_refl, Bool.not_true, Bool.not_false, Bool.true_and, Bool.false_and, Bool.and_false, Int.reduceBNe, Int.reduceBEq, Int.reduceLT, Int.reduceLE, decide_true, decide_false, i1', ldE_f, i2, i30, Option.bind_some]
      refine Bring_ev (hin _ (List.getElem_mem hk')) (by decide) ?_
      have b1 := bring_r (i := l[k]) (n := 200) (by decide)
      obtain ⟨a, ha⟩ : ∃ a, a = bring l[k] 200 := ⟨_, rfl⟩
      rw [← ha] at b1 ⊢
      have hok := hs.set_ok.2.1
      have hfew : (addL rs a a).length ≤ rs.length + 1 := by rw [addL_len hok (Int.le_refl _)]; omega
      have hE : addE 256 rs a a = 0 := by
        have hnb : ¬ badR a a := by unfold badR; omega
        unfold addE
        rw [if_neg hnb, if_neg (by omega)]
      simp only [sounderlaw10_marks_g29]
      refine add_c (e := 0) (rs' := addL rs a a) hs hE (by unfold addS; rw [if_pos hE]) fun K2 h2 => ?_
      simp only [sounderlaw10_marks_g30]
      try simp only [bnd_some, brV_t, brV_f, brG_t, brG_f, newE_u, pickE_t, pickE_f, nilV_p, faV_p, cells_int, cells_bool, cells_ptr, cells_slice, cells_func, cells_agg, bin_eql, bin_neq, bin_lss, bin_leq, bin_gtr, bin_geq, bin_eqlb, bin_neqb, bin_eqlp, bin_eqlp0, bin_neqp, bin_neqp0, bin_eqls, bin_eqls0, un_not, un_neg, len_s, cap_s, ex_t, cv_i, callV_f, Option.bind_some, Option.map_some, Nat.zero_add, Nat.add_zero, Nat.reduceAdd, Nat.reduceMul, size_newB, size_setB, blk_newB_self, own_newB_self, setB_setB, List.getElem?_toArray, List.getElem?_cons_zero, List.getElem?_cons_succ, List.length_cons, List.length_nil, List.all_cons, List.all_nil, isCell_int, isCell_bool, isCell_ptr, isCell_slice, isCell_func, Bool.and_true, Bool.and_self, and_self, if_true, List.size_toArray, and_true, true_and, Nat.reduceLeDiff, Nat.le_refl, Bool.not_true, Bool.not_false, Bool.true_and, Bool.false_and, Bool.and_false, Int.reduceBNe, Int.reduceBEq, Int.reduceLT, Int.reduceLE, decide_true, decide_false, bin_add, w5]
      refine ⟨⟨k + 1, addL rs a a, rfl, by omega, by omega, by omega, fun n => ?_, h2⟩, by show _ < _; omega⟩
      rw [addL_mem hok (Int.le_refl _), hmem, List.take_add_one, List.getElem?_eq_getElem hk', Option.toList_some]
      constructor
      · rintro (⟨x, hx, rfl⟩ | ⟨h1, h2⟩)
        · exact ⟨x, List.mem_append_left _ hx, rfl⟩
        · exact ⟨l[k], List.mem_append_right _ (List.mem_singleton.2 rfl), by omega⟩
      · rintro ⟨x, hx, rfl⟩
        rcases List.mem_append.1 hx with hx | hx
        · exact .inl ⟨x, hx, rfl⟩
        · rw [List.mem_singleton] at hx; subst hx
          exact .inr (by omega)
    · exact fin (by rw [show k = 40 by omega])
  · try simp only [bnd_some, brV_t, brV_f, brG_t, brG_f, newE_u, pickE_t, pickE_f, nilV_p, faV_p, cells_int, cells_bool, cells_ptr, cells_slice, cells_func, cells_agg, bin_eql, bin_neq, bin_lss, bin_leq, bin_gtr, bin_geq, bin_eqlb, bin_neqb, bin_eqlp, bin_eqlp0, bin_neqp, bin_neqp0, bin_eqls, bin_eqls0, un_not, un_neg, len_s, cap_s, ex_t, cv_i, callV_f, Option.bind_some, Option.map_some, Nat.zero_add, Nat.add_zero, Nat.reduceAdd, Nat.reduceMul, size_newB, size_setB, blk_newB_self, own_newB_self, setB_setB, List.getElem?_toArray, List.getElem?_cons_zero, List.getElem?_cons_succ, List.length_cons, List.length_nil, List.all_cons, List.all_nil, isCell_int, isCell_bool, isCell_ptr, isCell_slice, isCell_func, Bool.and_true, Bool.and_self, and_self, if_true, List.size_toArray, and_true, true_and, Nat.reduceLeDiff, Nat.le_refl, Bool.not_true, Bool.not_false, Bool.true_and, Bool.false_and, Bool.and_false, Int.reduceBNe, Int.reduceBEq, Int.reduceLT, Int.reduceLE, decide_true, decide_false]
    exact fin (by rw [List.take_of_length_le (by omega), List.take_of_length_le (by omega)])
end Go.Hc

/- SpanSets: the statement. -/
import Derived.Test.YtecomjpmajbpgaaS04Sets2
set_option linter.unusedSimpArgs false
set_option linter.unusedVariables false
namespace Go.Hc
open Go

theorem Mem_nil {n : Int} : ¬ Mem [] n := by rintro ⟨x, hx, _⟩; simp at hx
/-- so many rows, from one on, round and round -/
def rotHas (L : List (Fin 2 → Int)) (k i : Nat) (n : Int) : Prop := ∃ j, ∃ hj : j < i, ∃ h : (j + k) % L.length < L.length, rowLo L[(j + k) % L.length] ≤ n ∧ n ≤ rowHi L[(j + k) % L.length]
theorem rot_all {L : List (Fin 2 → Int)} (k : Nat) {n : Int} : rotHas L k L.length n ↔ ∃ y ∈ L, rowLo y ≤ n ∧ n ≤ rowHi y := by
  constructor
  · rintro ⟨j, hj, h, h1⟩; exact ⟨_, List.getElem_mem h, h1⟩
  · rintro ⟨y, hy, h1⟩
    obtain ⟨i, hi, rfl⟩ := List.getElem_of_mem hy
    have hpos : 0 < L.length := by omega
    have hk := Nat.mod_lt k hpos
    have key : ∀ j, (j + k % L.length = i ∨ j + k % L.length = i + L.length) → (j + k) % L.length = i := fun j hj => by
      have : (j + k) % L.length = (j + k % L.length) % L.length := by rw [Nat.add_mod_mod]
      rcases hj with hj | hj
      · rw [this, hj, Nat.mod_eq_of_lt hi]
      · rw [this, hj, Nat.add_mod_right, Nat.mod_eq_of_lt hi]
    by_cases hc : k % L.length ≤ i
    · have e := key (i - k % L.length) (.inl (by omega))
      refine ⟨i - k % L.length, by omega, by rw [e]; exact hi, ?_⟩
      simp only [e]; exact h1
    · have e := key (i + L.length - k % L.length) (.inr (by omega))
      refine ⟨i + L.length - k % L.length, by omega, by rw [e]; exact hi, ?_⟩
      simp only [e]; exact h1
theorem SSets_ev {H : Heap} {bl fr : Int} {v : Value} {l : List (Fin 2 → Int)} {R : Value → Heap → Prop} (hv : ShowA (intsE 2) H v l) (hin : ∀ y ∈ l, ∀ i, In64 (y i)) (hc : CutOK v) (hbl : In64 bl) (hfr : In64 fr)
    (hR : ∀ H', Ext [] H H' → R (.bool true) H') : EvL P N.sounderlaw04_SpanSets #[v, iv bl, iv fr] H R := by
  refine sounderlaw04_SpanSets_ev0 _ _ _ _ _ ?_
  have hsm := hv.small
  simp only [sounderlaw04_SpanSets, sounderlaw04_SpanSets_g79, sounderlaw04_SpanSets_g80, sounderlaw04_SpanSets_g81, sounderlaw04_SpanSets_g82, sounderlaw04_SpanSets_g83, sounderlaw04_SpanSets_g84, sounderlaw04_SpanSets_g85, sounderlaw04_SpanSets_g86, sounderlaw04_SpanSets_g87, sounderlaw04_SpanSets_g88, sounderlaw04_SpanSets_g89]
  refine works_s (Sep.nil H) fun H1 h1 => ?_
  obtain ⟨m, hm⟩ : ∃ m, m = min l.length 40 := ⟨_, rfl⟩
  have hmin : foldV min2V (iv l.length) [.int .i64 40] = some (iv m) := by
    have : foldV min2V (iv (l.length : Int)) [iv 40] = some (iv (min (l.length : Int) 40)) := min_iv
    rw [show (Value.int .i64 40) = iv 40 from rfl, this]; congr 2; omega
  obtain ⟨v', hs1, hv', hc'⟩ := hv.take hc (show m ≤ l.length by omega) (k := .i64) (rfl : (m : Int) = m)
  have hs1' : sliceV 2 v none (some (iv m)) = _ := hs1
  obtain ⟨L, hL⟩ : ∃ L, L = l.take m := ⟨_, rfl⟩
  rw [← hL] at hv'
  have hLm : L.length = m := by rw [hL, List.length_take]; omega
  have hinL : ∀ y ∈ L, ∀ i, In64 (y i) := fun y hy => hin y (List.mem_of_mem_take (hL ▸ hy))
  try simp only [bnd_some, brV_t, brV_f, brG_t, brG_f, newE_u, pickE_t, pickE_f, nilV_p, faV_p, cells_int, cells_bool, cells_ptr, cells_slice, cells_func, cells_agg, bin_eql, bin_neq, bin_lss, bin_leq, bin_gtr, bin_geq, bin_eqlb, bin_neqb, bin_eqlp, bin_eqlp0, bin_neqp, bin_neqp0, bin_eqls, bin_eqls0, un_not, un_neg, len_s, cap_s, ex_t, cv_i, callV_f, Option.bind_some, Option.map_some, Nat.zero_add, Nat.add_zero, Nat.reduceAdd, Nat.reduceMul, size_newB, size_setB, blk_newB_self, own_newB_self, setB_setB, List.getElem?_toArray, List.getElem?_cons_zero, List.getElem?_cons_succ, List.length_cons, List.length_nil, List.all_cons, List.all_nil, isCell_int, isCell_bool, isCell_ptr, isCell_slice, isCell_func, Bool.and_true, Bool.and_self, and_self, if_true, List.size_toArray, and_true, true_and, Nat.reduceLeDiff, Nat.le_refl, Bool.not_true, Bool.not_false, Bool.true_and, Bool.false_and, Bool.and_false, Int.reduceBNe, Int.reduceBEq, Int.reduceLT, Int.reduceLE, decide_true, decide_false, hv.len, hmin, hs1']
  refine Bring_ev hbl (by omega) ?_
  have hb := bring_r (i := bl) (n := 101) (by omega)
  obtain ⟨below, hbelow⟩ : ∃ n : Nat, (n : Int) = bring bl 101 := ⟨(bring bl 101).toNat, by omega⟩
  rw [← hbelow]
  refine new_s h1 (by decide) fun s H2 h2 => ?_
  try simp only [bnd_some, brV_t, brV_f, brG_t, brG_f, newE_u, pickE_t, pickE_f, nilV_p, faV_p, cells_int, cells_bool, cells_ptr, cells_slice, cells_func, cells_agg, bin_eql, bin_neq, bin_lss, bin_leq, bin_gtr, bin_geq, bin_eqlb, bin_neqb, bin_eqlp, bin_eqlp0, bin_neqp, bin_neqp0, bin_eqls, bin_eqls0, un_not, un_neg, len_s, cap_s, ex_t, cv_i, callV_f, Option.bind_some, Option.map_some, Nat.zero_add, Nat.add_zero, Nat.reduceAdd, Nat.reduceMul, size_newB, size_setB, blk_newB_self, own_newB_self, setB_setB, List.getElem?_toArray, List.getElem?_cons_zero, List.getElem?_cons_succ, List.length_cons, List.length_nil, List.all_cons, List.all_nil, isCell_int, isCell_bool, isCell_ptr, isCell_slice, isCell_func, Bool.and_true, Bool.and_self, and_self, if_true, List.size_toArray, and_true, true_and, Nat.reduceLeDiff, Nat.le_refl, Bool.not_true, Bool.not_false, Bool.true_and, Bool.false_and, Bool.and_false, Int.reduceBNe, Int.reduceBEq, Int.reduceLT, Int.reduceLE, decide_true, decide_false]
  refine new_s h2 (by decide) fun t H3 h3 => ?_
  have w1 : IntKind.i64.wrap ((L.length : Int) + 1) = ((L.length + 1 : Nat) : Int) := by rw [wrap_in (by omega)]; omega
  try simp only [bnd_some, brV_t, brV_f, brG_t, brG_f, newE_u, pickE_t, pickE_f, nilV_p, faV_p, cells_int, cells_bool, cells_ptr, cells_slice, cells_func, cells_agg, bin_eql, bin_neq, bin_lss, bin_leq, bin_gtr, bin_geq, bin_eqlb, bin_neqb, bin_eqlp, bin_eqlp0, bin_neqp, bin_neqp0, bin_eqls, bin_eqls0, un_not, un_neg, len_s, cap_s, ex_t, cv_i, callV_f, Option.bind_some, Option.map_some, Nat.zero_add, Nat.add_zero, Nat.reduceAdd, Nat.reduceMul, size_newB, size_setB, blk_newB_self, own_newB_self, setB_setB, List.getElem?_toArray, List.getElem?_cons_zero, List.getElem?_cons_succ, List.length_cons, List.length_nil, List.all_cons, List.all_nil, isCell_int, isCell_bool, isCell_ptr, isCell_slice, isCell_func, Bool.and_true, Bool.and_self, and_self, if_true, List.size_toArray, and_true, true_and, Nat.reduceLeDiff, Nat.le_refl, Bool.not_true, Bool.not_false, Bool.true_and, Bool.false_and, Bool.and_false, Int.reduceBNe, Int.reduceBEq, Int.reduceLT, Int.reduceLE, decide_true, decide_false, hv'.len, bin_add, w1, Int.reduceToNat]
  refine Bring_ev hfr (by omega) ?_
  have hb2 := bring_r (i := fr) (n := ((L.length + 1 : Nat) : Int)) (by omega)
  obtain ⟨k, hk⟩ : ∃ n : Nat, (n : Int) = bring fr ((L.length + 1 : Nat) : Int) := ⟨(bring fr ((L.length + 1 : Nat) : Int)).toNat, by omega⟩
  rw [← hk]
  simp only [sounderlaw04_SpanSets_l117]
  refine ⟨fun x K => ∃ (i : Nat) (rs rt : List Rng), x = iv i ∧ i ≤ L.length ∧ rs.length ≤ 2 * i ∧ rt.length ≤ i ∧ (∀ n, Mem rs n ↔ rotHas L 0 i n) ∧ (∀ n, Mem rt n ↔ rotHas L k i n) ∧ Sep H K [setA s 256 rs, setA t 256 rt],
    fun x _ => (match x with | .int _ i => (41 - i).toNat | _ => 0), ⟨0, [], [], rfl, by omega, by simp, by simp, fun n => ⟨fun h => absurd h Mem_nil, fun ⟨j, hj, _⟩ => by omega⟩, fun n => ⟨fun h => absurd h Mem_nil, fun ⟨j, hj, _⟩ => by omega⟩, h3.b1⟩, ?_⟩
  rintro x K ⟨i, rs, rt, rfl, hil, hrs, hrt, hms, hmt, hs⟩
  have hvK := hv'.ext hs.only
  simp only [sounderlaw04_SpanSets_s90, sounderlaw04_SpanSets_g91]
  try simp only [bnd_some, brV_t, brV_f, brG_t, brG_f, newE_u, pickE_t, pickE_f, nilV_p, faV_p, cells_int, cells_bool, cells_ptr, cells_slice, cells_func, cells_agg, bin_eql, bin_neq, bin_lss, bin_leq, bin_gtr, bin_geq, bin_eqlb, bin_neqb, bin_eqlp, bin_eqlp0, bin_neqp, bin_neqp0, bin_eqls, bin_eqls0, un_not, un_neg, len_s, cap_s, ex_t, cv_i, callV_f, Option.bind_some, Option.map_some, Nat.zero_add, Nat.add_zero, Nat.reduceAdd, Nat.reduceMul, size_newB, size_setB, blk_newB_self, own_newB_self, setB_setB, List.getElem?_toArray, List.getElem?_cons_zero, List.getElem?_cons_succ, List.length_cons, List.length_nil, List.all_cons, List.all_nil, isCell_int, isCell_bool, isCell_ptr, isCell_slice, isCell_func, Bool.and_true, Bool.and_self, and_self, if_true, List.size_toArray, and_true, true_and, Nat.reduceLeDiff, Nat.le_refl, Bool.not_true, Bool.not_false, Bool.true_and, Bool.false_and, Bool.and_false, Int.reduceBNe, Int.reduceBEq, Int.reduceLT, Int.reduceLE, decide_true, decide_false, hvK.len]
  refine brV_d (fun hlt => ?_) (fun hge => ?_)
  · have hi : i < L.length := by omega
    have hmem : ∀ {a b : List Rng} {K0 : Heap}, True := fun {_ _ _} => trivial
    have rd : ∀ {K0 : Heap} {j : Nat} (hj : j < L.length), Ext [] H K0 → ∃ b o, ixSV 2 v' (iv j) = some (.pointer (some ⟨b, o, none⟩)) ∧ ldE true 2 (.pointer (some ⟨b, o, none⟩)) K0 = some (.agg ((intsE 2).c L[j])) := fun {K0 j} hj he => by
      obtain ⟨b, o, c, hx, hb, hc, hld⟩ := (hv'.ext he).ix (by decide) hj (rfl : (j : Int) = j)
      exact ⟨b, o, hx, hld⟩
    obtain ⟨b, o, hx, hld⟩ := rd hi hs.only
    simp only [sounderlaw04_SpanSets_g92, sounderlaw04_SpanSets_g93, sounderlaw04_SpanSets_g94, sounderlaw04_SpanSets_g95, sounderlaw04_SpanSets_g96, sounderlaw04_SpanSets_g97, sounderlaw04_SpanSets_g98]
    try simp only [bnd_some, brV_t, brV_f, brG_t, brG_f, newE_u, pickE_t, pickE_f, nilV_p, faV_p, cells_int, cells_bool, cells_ptr, cells_slice, cells_func, cells_agg, bin_eql, bin_neq, bin_lss, bin_leq, bin_gtr, bin_geq, bin_eqlb, bin_neqb, bin_eqlp, bin_eqlp0, bin_neqp, bin_neqp0, bin_eqls, bin_eqls0, un_not, un_neg, len_s, cap_s, ex_t, cv_i, callV_f, Option.bind_some, Option.map_some, Nat.zero_add, Nat.add_zero, Nat.reduceAdd, Nat.reduceMul, size_newB, size_setB, blk_newB_self, own_newB_self, setB_setB, List.getElem?_toArray, List.getElem?_cons_zero, List.getElem?_cons_succ, List.length_cons, List.length_nil, List.all_cons, List.all_nil, isCell_int, isCell_bool, isCell_ptr, isCell_slice, isCell_func, Bool.and_true, Bool.and_self, and_self, if_true, List.size_toArray, and_true, true_and, Nat.reduceLeDiff, Nat.le_refl, Bool.not_true, Bool.not_false, Bool.true_and, Bool.false_and, Bool.and_false, Int.reduceBNe, Int.reduceBEq, Int.reduceLT, Int.reduceLE, decide_true, decide_false, hx, hld]
    refine row_s hs (hinL _ (List.getElem_mem hi)) fun K1 k1 => ?_
    try simp only [bnd_some, brV_t, brV_f, brG_t, brG_f, newE_u, pickE_t, pickE_f, nilV_p, faV_p, cells_int, cells_bool, cells_ptr, cells_slice, cells_func, cells_agg, bin_eql, bin_neq, bin_lss, bin_leq, bin_gtr, bin_geq, bin_eqlb, bin_neqb, bin_eqlp, bin_eqlp0, bin_neqp, bin_neqp0, bin_eqls, bin_eqls0, un_not, un_neg, len_s, cap_s, ex_t, cv_i, callV_f, Option.bind_some, Option.map_some, Nat.zero_add, Nat.add_zero, Nat.reduceAdd, Nat.reduceMul, size_newB, size_setB, blk_newB_self, own_newB_self, setB_setB, List.getElem?_toArray, List.getElem?_cons_zero, List.getElem?_cons_succ, List.length_cons, List.length_nil, List.all_cons, List.all_nil, isCell_int, isCell_bool, isCell_ptr, isCell_slice, isCell_func, Bool.and_true, Bool.and_self, and_self, if_true, List.size_toArray, and_true, true_and, Nat.reduceLeDiff, Nat.le_refl, Bool.not_true, Bool.not_false, Bool.true_and, Bool.false_and, Bool.and_false, Int.reduceBNe, Int.reduceBEq, Int.reduceLT, Int.reduceLE, decide_true, decide_false]
    have hok := hs.set_ok.2.1
    have hokt := hs.b1.set_ok.2.1
    have hrb := row_b L[i]
    have hlen := addL_few hok hrb.2.1
    have hok1 := addL_ok hok hrb.1 hrb.2.1 (by omega)
    have hE1 : addE 256 rs (rowLo L[i]) (rowHi L[i]) = 0 := by unfold addE; rw [if_neg (row_bad _), if_neg (by omega)]
    refine add_c k1 hE1 (by unfold addS; rw [if_pos hE1]) fun K2 k2 => ?_
    try simp only [bnd_some, brV_t, brV_f, brG_t, brG_f, newE_u, pickE_t, pickE_f, nilV_p, faV_p, cells_int, cells_bool, cells_ptr, cells_slice, cells_func, cells_agg, bin_eql, bin_neq, bin_lss, bin_leq, bin_gtr, bin_geq, bin_eqlb, bin_neqb, bin_eqlp, bin_eqlp0, bin_neqp, bin_neqp0, bin_eqls, bin_eqls0, un_not, un_neg, len_s, cap_s, ex_t, cv_i, callV_f, Option.bind_some, Option.map_some, Nat.zero_add, Nat.add_zero, Nat.reduceAdd, Nat.reduceMul, size_newB, size_setB, blk_newB_self, own_newB_self, setB_setB, List.getElem?_toArray, List.getElem?_cons_zero, List.getElem?_cons_succ, List.length_cons, List.length_nil, List.all_cons, List.all_nil, isCell_int, isCell_bool, isCell_ptr, isCell_slice, isCell_func, Bool.and_true, Bool.and_self, and_self, if_true, List.size_toArray, and_true, true_and, Nat.reduceLeDiff, Nat.le_refl, Bool.not_true, Bool.not_false, Bool.true_and, Bool.false_and, Bool.and_false, Int.reduceBNe, Int.reduceBEq, Int.reduceLT, Int.reduceLE, decide_true, decide_false]
    have hlen2 := addL_few hok1 (Int.le_refl (rowLo L[i]))
    have hE2 : addE 256 (addL rs (rowLo L[i]) (rowHi L[i])) (rowLo L[i]) (rowLo L[i]) = 0 := by
      unfold addE; rw [if_neg (by simp only [badR]; omega), if_neg (by omega)]
    refine add_c k2 hE2 (by unfold addS; rw [if_pos hE2]) fun K3 k3 => ?_
    have hpos : 0 < L.length := by omega
    have hjk : (i + k) % L.length < L.length := Nat.mod_lt _ hpos
    have w2 : IntKind.i64.wrap ((i : Int) + (k : Int)) = ((i + k : Nat) : Int) := by rw [wrap_in (by omega)]; omega
    have hrem : binV .int .rem (iv ((i + k : Nat) : Int)) (iv (L.length : Int)) = some (iv (((i + k) % L.length : Nat) : Int)) := by
      rw [bin_rem (by omega), Int.tmod_eq_emod_of_nonneg (by omega)]; congr 2
    obtain ⟨b2, o2, hx2, hld2⟩ := rd hjk k3.only
    try simp only [bnd_some, brV_t, brV_f, brG_t, brG_f, newE_u, pickE_t, pickE_f, nilV_p, faV_p, cells_int, cells_bool, cells_ptr, cells_slice, cells_func, cells_agg, bin_eql, bin_neq, bin_lss, bin_leq, bin_gtr, bin_geq, bin_eqlb, bin_neqb, bin_eqlp, bin_eqlp0, bin_neqp, bin_neqp0, bin_eqls, bin_eqls0, un_not, un_neg, len_s, cap_s, ex_t, cv_i, callV_f, Option.bind_some, Option.map_some, Nat.zero_add, Nat.add_zero, Nat.reduceAdd, Nat.reduceMul, size_newB, size_setB, blk_newB_self, own_newB_self, setB_setB, List.getElem?_toArray, List.getElem?_cons_zero, List.getElem?_cons_succ, List.length_cons, List.length_nil, List.all_cons, List.all_nil, isCell_int, isCell_bool, isCell_ptr, isCell_slice, isCell_func, Bool.and_true, Bool.and_self, and_self, if_true, List.size_toArray, and_true, true_and, Nat.reduceLeDiff, Nat.le_refl, Bool.not_true, Bool.not_false, Bool.true_and, Bool.false_and, Bool.and_false, Int.reduceBNe, Int.reduceBEq, Int.reduceLT, Int.reduceLE, decide_true, decide_false, bin_add, w2, hvK.len, hrem, hx2, hld2]
    refine row_s k3 (hinL _ (List.getElem_mem hjk)) fun K4 k4 => ?_
    try simp only [bnd_some, brV_t, brV_f, brG_t, brG_f, newE_u, pickE_t, pickE_f, nilV_p, faV_p, cells_int, cells_bool, cells_ptr, cells_slice, cells_func, cells_agg, bin_eql, bin_neq, bin_lss, bin_leq, bin_gtr, bin_geq, bin_eqlb, bin_neqb, bin_eqlp, bin_eqlp0, bin_neqp, bin_neqp0, bin_eqls, bin_eqls0, un_not, un_neg, len_s, cap_s, ex_t, cv_i, callV_f, Option.bind_some, Option.map_some, Nat.zero_add, Nat.add_zero, Nat.reduceAdd, Nat.reduceMul, size_newB, size_setB, blk_newB_self, own_newB_self, setB_setB, List.getElem?_toArray, List.getElem?_cons_zero, List.getElem?_cons_succ, List.length_cons, List.length_nil, List.all_cons, List.all_nil, isCell_int, isCell_bool, isCell_ptr, isCell_slice, isCell_func, Bool.and_true, Bool.and_self, and_self, if_true, List.size_toArray, and_true, true_and, Nat.reduceLeDiff, Nat.le_refl, Bool.not_true, Bool.not_false, Bool.true_and, Bool.false_and, Bool.and_false, Int.reduceBNe, Int.reduceBEq, Int.reduceLT, Int.reduceLE, decide_true, decide_false]
    have hrb3 := row_b L[(i + k) % L.length]
    have hlen3 := addL_few hokt hrb3.2.1
    have hE3 : addE 256 rt (rowLo L[(i + k) % L.length]) (rowHi L[(i + k) % L.length]) = 0 := by unfold addE; rw [if_neg (row_bad _), if_neg (by omega)]
    refine add_c k4.b1 hE3 (by unfold addS; rw [if_pos hE3]) fun K5 k5 => ?_
    have w5 : IntKind.i64.wrap ((i : Int) + 1) = ((i + 1 : Nat) : Int) := by rw [wrap_in (by omega)]; omega
    try simp only [bnd_some, brV_t, brV_f, brG_t, brG_f, newE_u, pickE_t, pickE_f, nilV_p, faV_p, cells_int, cells_bool, cells_ptr, cells_slice, cells_func, cells_agg, bin_eql, bin_neq, bin_lss, bin_leq, bin_gtr, bin_geq, bin_eqlb, bin_neqb, bin_eqlp, bin_eqlp0, bin_neqp, bin_neqp0, bin_eqls, bin_eqls0, un_not, un_neg, len_s, cap_s, ex_t, cv_i, callV_f, Option.bind_some, Option.map_some, Nat.zero_add, Nat.add_zero, Nat.reduceAdd, Nat.reduceMul, size_newB, size_setB, blk_newB_self, own_newB_self, setB_setB, List.getElem?_toArray, List.getElem?_cons_zero, List.getElem?_cons_succ, List.length_cons, List.length_nil, List.all_cons, List.all_nil, isCell_int, isCell_bool, isCell_ptr, isCell_slice, isCell_func, Bool.and_true, Bool.and_self, and_self, if_true, List.size_toArray, and_true, true_and, Nat.reduceLeDiff, Nat.le_refl, Bool.not_true, Bool.not_false, Bool.true_and, Bool.false_and, Bool.and_false, Int.reduceBNe, Int.reduceBEq, Int.reduceLT, Int.reduceLE, decide_true, decide_false, bin_add, w5]
    have snoc : ∀ (k n : Nat → Nat) (q : Nat) (z : Int) (hq : (i + q) % L.length < L.length), rotHas L q (i + 1) z ↔ rotHas L q i z ∨ (rowLo L[(i + q) % L.length] ≤ z ∧ z ≤ rowHi L[(i + q) % L.length]) := fun _ _ q z hq => by
      constructor
      · rintro ⟨j, hj, hh, h1⟩
        by_cases hji : j = i
        · subst hji; exact .inr h1
        · exact .inl ⟨j, by omega, hh, h1⟩
      · rintro (⟨j, hj, hh, h1⟩ | h1)
        · exact ⟨j, by omega, hh, h1⟩
        · exact ⟨i, by omega, hq, h1⟩
    have hi0 : (i + 0) % L.length = i := Nat.mod_eq_of_lt hi
    refine ⟨⟨i + 1, _, _, rfl, by omega, by omega, by omega, fun n => ?_, fun n => ?_, k5.b1⟩, by show _ < _; omega⟩
    · rw [addL_mem hok1 (Int.le_refl _), addL_mem hok hrb.2.1, hms, snoc id id 0 n (by rw [hi0]; exact hi)]
      simp only [hi0]
      constructor
      · rintro ((h | h) | h)
        · exact .inl h
        · exact .inr h
        · exact .inr ⟨h.1, by omega⟩
      · rintro (h | h)
        · exact .inl (.inl h)
        · exact .inl (.inr h)
    · rw [addL_mem hokt hrb3.2.1, hmt, snoc id id k n hjk]
  · have hi : i = L.length := by omega
    subst hi
    have hok := hs.set_ok.2.1
    have hokt := hs.b1.set_ok.2.1
    have hst : rs = rt := Okr.ext hok hokt fun n => by rw [hms, hmt, rot_all, rot_all]
    subst hst
    have hmem : ∀ n, Mem rs n ↔ ∃ y ∈ L, rowLo y ≤ n ∧ n ≤ rowHi y := fun n => by rw [hms, rot_all]
    simp only [sounderlaw04_SpanSets_g99, sounderlaw04_SpanSets_g100, sounderlaw04_SpanSets_g101, sounderlaw04_SpanSets_g102, sounderlaw04_SpanSets_g103]
    refine same_s hs ?_
    simp only [show decide ((256 : Nat) = 256 ∧ rs = rs) = true from by simp]
    have hokb : okN (below : Int) := ⟨by omega, by omega⟩
    try simp only [bnd_some, brV_t, brV_f, brG_t, brG_f, newE_u, pickE_t, pickE_f, nilV_p, faV_p, cells_int, cells_bool, cells_ptr, cells_slice, cells_func, cells_agg, bin_eql, bin_neq, bin_lss, bin_leq, bin_gtr, bin_geq, bin_eqlb, bin_neqb, bin_eqlp, bin_eqlp0, bin_neqp, bin_neqp0, bin_eqls, bin_eqls0, un_not, un_neg, len_s, cap_s, ex_t, cv_i, callV_f, Option.bind_some, Option.map_some, Nat.zero_add, Nat.add_zero, Nat.reduceAdd, Nat.reduceMul, size_newB, size_setB, blk_newB_self, own_newB_self, setB_setB, List.getElem?_toArray, List.getElem?_cons_zero, List.getElem?_cons_succ, List.length_cons, List.length_nil, List.all_cons, List.all_nil, isCell_int, isCell_bool, isCell_ptr, isCell_slice, isCell_func, Bool.and_true, Bool.and_self, and_self, if_true, List.size_toArray, and_true, true_and, Nat.reduceLeDiff, Nat.le_refl, Bool.not_true, Bool.not_false, Bool.true_and, Bool.false_and, Bool.and_false, Int.reduceBNe, Int.reduceBEq, Int.reduceLT, Int.reduceLE, decide_true, decide_false]
    refine cut_c (e := 0) (rs' := cutL rs below) hs (if_pos hokb) (if_pos hokb) fun K1 k1 => ?_
    try simp only [bnd_some, brV_t, brV_f, brG_t, brG_f, newE_u, pickE_t, pickE_f, nilV_p, faV_p, cells_int, cells_bool, cells_ptr, cells_slice, cells_func, cells_agg, bin_eql, bin_neq, bin_lss, bin_leq, bin_gtr, bin_geq, bin_eqlb, bin_neqb, bin_eqlp, bin_eqlp0, bin_neqp, bin_neqp0, bin_eqls, bin_eqls0, un_not, un_neg, len_s, cap_s, ex_t, cv_i, callV_f, Option.bind_some, Option.map_some, Nat.zero_add, Nat.add_zero, Nat.reduceAdd, Nat.reduceMul, size_newB, size_setB, blk_newB_self, own_newB_self, setB_setB, List.getElem?_toArray, List.getElem?_cons_zero, List.getElem?_cons_succ, List.length_cons, List.length_nil, List.all_cons, List.all_nil, isCell_int, isCell_bool, isCell_ptr, isCell_slice, isCell_func, Bool.and_true, Bool.and_self, and_self, if_true, List.size_toArray, and_true, true_and, Nat.reduceLeDiff, Nat.le_refl, Bool.not_true, Bool.not_false, Bool.true_and, Bool.false_and, Bool.and_false, Int.reduceBNe, Int.reduceBEq, Int.reduceLT, Int.reduceLE, decide_true, decide_false]
    refine cut_c (e := 0) (rs' := cutL rs below) k1.b1 (if_pos hokb) (if_pos hokb) fun K2 k2 => ?_
    try simp only [bnd_some, brV_t, brV_f, brG_t, brG_f, newE_u, pickE_t, pickE_f, nilV_p, faV_p, cells_int, cells_bool, cells_ptr, cells_slice, cells_func, cells_agg, bin_eql, bin_neq, bin_lss, bin_leq, bin_gtr, bin_geq, bin_eqlb, bin_neqb, bin_eqlp, bin_eqlp0, bin_neqp, bin_neqp0, bin_eqls, bin_eqls0, un_not, un_neg, len_s, cap_s, ex_t, cv_i, callV_f, Option.bind_some, Option.map_some, Nat.zero_add, Nat.add_zero, Nat.reduceAdd, Nat.reduceMul, size_newB, size_setB, blk_newB_self, own_newB_self, setB_setB, List.getElem?_toArray, List.getElem?_cons_zero, List.getElem?_cons_succ, List.length_cons, List.length_nil, List.all_cons, List.all_nil, isCell_int, isCell_bool, isCell_ptr, isCell_slice, isCell_func, Bool.and_true, Bool.and_self, and_self, if_true, List.size_toArray, and_true, true_and, Nat.reduceLeDiff, Nat.le_refl, Bool.not_true, Bool.not_false, Bool.true_and, Bool.false_and, Bool.and_false, Int.reduceBNe, Int.reduceBEq, Int.reduceLT, Int.reduceLE, decide_true, decide_false]
    have hokc := cutL_ok hok (b := (below : Int)) (by omega)
    refine bits_s k2.b1 hv' hinL (by omega) fun K3 k3 => ?_
    obtain ⟨f, hf⟩ : ∃ f, f = fun n => anyRow L n && decide (below ≤ n) := ⟨_, rfl⟩
    rw [← hf]
    have hfm : ∀ n : Nat, n < 101 → (f n = true ↔ Mem (cutL rs below) n) := fun n _ => by
      rw [cutL_mem hok, hmem, hf]
      simp only [Bool.and_eq_true, decide_eq_true_eq, anyRow, List.any_eq_true, inRow]
      constructor
      · rintro ⟨⟨y, hy, h1⟩, h2⟩; exact ⟨⟨y, hy, h1⟩, by omega⟩
      · rintro ⟨⟨y, hy, h1⟩, h2⟩; exact ⟨⟨y, hy, h1⟩, by omega⟩
    have hlow : ∀ r ∈ cutL rs below, r.2 ≤ 100 := fun r hr => by
      have := hokc.each r hr
      obtain ⟨y, hy, h1, h2⟩ := (hmem r.2).1 ((cutL_mem hok).1 ⟨r, hr, by omega, by omega⟩).1
      have := row_b y; omega
    have en := fun t => k3.newC (t := t) (c := bitC fun _ => false)
    have he : ∀ t, own (newB K3 t (bitC fun _ => false)) K3.size = some (bitC fun _ => false) := fun t => own_newB_self
    try simp only [bnd_some, brV_t, brV_f, brG_t, brG_f, newE_u, pickE_t, pickE_f, nilV_p, faV_p, cells_int, cells_bool, cells_ptr, cells_slice, cells_func, cells_agg, bin_eql, bin_neq, bin_lss, bin_leq, bin_gtr, bin_geq, bin_eqlb, bin_neqb, bin_eqlp, bin_eqlp0, bin_neqp, bin_neqp0, bin_eqls, bin_eqls0, un_not, un_neg, len_s, cap_s, ex_t, cv_i, callV_f, Option.bind_some, Option.map_some, Nat.zero_add, Nat.add_zero, Nat.reduceAdd, Nat.reduceMul, size_newB, size_setB, blk_newB_self, own_newB_self, setB_setB, List.getElem?_toArray, List.getElem?_cons_zero, List.getElem?_cons_succ, List.length_cons, List.length_nil, List.all_cons, List.all_nil, isCell_int, isCell_bool, isCell_ptr, isCell_slice, isCell_func, Bool.and_true, Bool.and_self, and_self, if_true, List.size_toArray, and_true, true_and, Nat.reduceLeDiff, Nat.le_refl, Bool.not_true, Bool.not_false, Bool.true_and, Bool.false_and, Bool.and_false, Int.reduceBNe, Int.reduceBEq, Int.reduceLT, Int.reduceLE, decide_true, decide_false, zeros_bit, stE_p, bitC_s, wrA_b, he, bit_len, bitC_cell, bit_splice]
    have ew := fun t => (en t).set (c' := bitC f)
    simp only [sounderlaw04_SpanSets_l113]
    have hsum := cnt_sum (N := 101) hokc (fun r hr => by have := hlow r hr; omega) f hfm
    refine ⟨fun x15 x17 K => ∃ n : Nat, x17 = iv n ∧ n ≤ 101 ∧ x15 = iv (sumB f n) ∧ Sep H K [cellsA K3.size (bitC f), setA s 256 (cutL rs below), setA t 256 (cutL rs below)], fun _ x _ => (match x with | .int _ i => (200 - i).toNat | _ => 0),
      ⟨0, rfl, by omega, rfl, ew _⟩, ?_⟩
    rintro x15 x17 K4 ⟨n, rfl, hn, rfl, hs4⟩
    simp only [sounderlaw04_SpanSets_s104, sounderlaw04_SpanSets_g105]
    try simp only [bnd_some, brV_t, brV_f, brG_t, brG_f, newE_u, pickE_t, pickE_f, nilV_p, faV_p, cells_int, cells_bool, cells_ptr, cells_slice, cells_func, cells_agg, bin_eql, bin_neq, bin_lss, bin_leq, bin_gtr, bin_geq, bin_eqlb, bin_neqb, bin_eqlp, bin_eqlp0, bin_neqp, bin_neqp0, bin_eqls, bin_eqls0, un_not, un_neg, len_s, cap_s, ex_t, cv_i, callV_f, Option.bind_some, Option.map_some, Nat.zero_add, Nat.add_zero, Nat.reduceAdd, Nat.reduceMul, size_newB, size_setB, blk_newB_self, own_newB_self, setB_setB, List.getElem?_toArray, List.getElem?_cons_zero, List.getElem?_cons_succ, List.length_cons, List.length_nil, List.all_cons, List.all_nil, isCell_int, isCell_bool, isCell_ptr, isCell_slice, isCell_func, Bool.and_true, Bool.and_self, and_self, if_true, List.size_toArray, and_true, true_and, Nat.reduceLeDiff, Nat.le_refl, Bool.not_true, Bool.not_false, Bool.true_and, Bool.false_and, Bool.and_false, Int.reduceBNe, Int.reduceBEq, Int.reduceLT, Int.reduceLE, decide_true, decide_false]
    refine brV_d (fun hlt => ?_) (fun hge => ?_)
    · have hn' : n < 101 := by omega
      have ha : ixAV 1 101 (.pointer (some ⟨K3.size, 0, none⟩)) (iv n) = some (.pointer (some ⟨K3.size, n, none⟩)) := by rw [ixA_u (by omega)]; simp
      have hsb := sumB_b f n
      have w6 : IntKind.i64.wrap (sumB f n + ind (f n)) = sumB f (n + 1) := by
        have h : 0 ≤ ind (f n) ∧ ind (f n) ≤ 1 := by cases f n <;> simp [ind]
        rw [wrap_in (by omega)]; rfl
      have w5 : IntKind.i64.wrap ((n : Int) + 1) = ((n + 1 : Nat) : Int) := by rw [wrap_in (by omega)]; omega
      simp only [sounderlaw04_SpanSets_g106, sounderlaw04_SpanSets_g107]
      try simp only [bnd_some, brV_t, brV_f, brG_t, brG_f, newE_u, pickE_t, pickE_f, nilV_p, faV_p, cells_int, cells_bool, cells_ptr, cells_slice, cells_func, cells_agg, bin_eql, bin_neq, bin_lss, bin_leq, bin_gtr, bin_geq, bin_eqlb, bin_neqb, bin_eqlp, bin_eqlp0, bin_neqp, bin_neqp0, bin_eqls, bin_eqls0, un_not, un_neg, len_s, cap_s, ex_t, cv_i, callV_f, Option.bind_some, Option.map_some, Nat.zero_add, Nat.add_zero, Nat.reduceAdd, Nat.reduceMul, size_newB, size_setB, blk_newB_self, own_newB_self, setB_setB, List.getElem?_toArray, List.getElem?_cons_zero, List.getElem?_cons_succ, List.length_cons, List.length_nil, List.all_cons, List.all_nil, isCell_int, isCell_bool, isCell_ptr, isCell_slice, isCell_func, Bool.and_true, Bool.and_self, and_self, if_true, List.size_toArray, and_true, true_and, Nat.reduceLeDiff, Nat.le_refl, Bool.not_true, Bool.not_false, Bool.true_and, Bool.false_and, Bool.and_false, Int.reduceBNe, Int.reduceBEq, Int.reduceLT, Int.reduceLE, decide_true, decide_false, ldE_f, ha, own_blk hs4.cells, bitC_at hn', bin_add, w6, w5]
      exact ⟨⟨n + 1, rfl, by omega, rfl, hs4⟩, by show _ < _; omega⟩
    · have hn' : n = 101 := by omega
      subst hn'
      simp only [sounderlaw04_SpanSets_g108]
      try simp only [bnd_some, brV_t, brV_f, brG_t, brG_f, newE_u, pickE_t, pickE_f, nilV_p, faV_p, cells_int, cells_bool, cells_ptr, cells_slice, cells_func, cells_agg, bin_eql, bin_neq, bin_lss, bin_leq, bin_gtr, bin_geq, bin_eqlb, bin_neqb, bin_eqlp, bin_eqlp0, bin_neqp, bin_neqp0, bin_eqls, bin_eqls0, un_not, un_neg, len_s, cap_s, ex_t, cv_i, callV_f, Option.bind_some, Option.map_some, Nat.zero_add, Nat.add_zero, Nat.reduceAdd, Nat.reduceMul, size_newB, size_setB, blk_newB_self, own_newB_self, setB_setB, List.getElem?_toArray, List.getElem?_cons_zero, List.getElem?_cons_succ, List.length_cons, List.length_nil, List.all_cons, List.all_nil, isCell_int, isCell_bool, isCell_ptr, isCell_slice, isCell_func, Bool.and_true, Bool.and_self, and_self, if_true, List.size_toArray, and_true, true_and, Nat.reduceLeDiff, Nat.le_refl, Bool.not_true, Bool.not_false, Bool.true_and, Bool.false_and, Bool.and_false, Int.reduceBNe, Int.reduceBEq, Int.reduceLT, Int.reduceLE, decide_true, decide_false, ldE_t, rdA_u, own_blk hs4.cells, bitC_g]
      refine is_s hs4.b1 hlow hfm fun K5 h5 => ?_
      try simp only [bnd_some, brV_t, brV_f, brG_t, brG_f, newE_u, pickE_t, pickE_f, nilV_p, faV_p, cells_int, cells_bool, cells_ptr, cells_slice, cells_func, cells_agg, bin_eql, bin_neq, bin_lss, bin_leq, bin_gtr, bin_geq, bin_eqlb, bin_neqb, bin_eqlp, bin_eqlp0, bin_neqp, bin_neqp0, bin_eqls, bin_eqls0, un_not, un_neg, len_s, cap_s, ex_t, cv_i, callV_f, Option.bind_some, Option.map_some, Nat.zero_add, Nat.add_zero, Nat.reduceAdd, Nat.reduceMul, size_newB, size_setB, blk_newB_self, own_newB_self, setB_setB, List.getElem?_toArray, List.getElem?_cons_zero, List.getElem?_cons_succ, List.length_cons, List.length_nil, List.all_cons, List.all_nil, isCell_int, isCell_bool, isCell_ptr, isCell_slice, isCell_func, Bool.and_true, Bool.and_self, and_self, if_true, List.size_toArray, and_true, true_and, Nat.reduceLeDiff, Nat.le_refl, Bool.not_true, Bool.not_false, Bool.true_and, Bool.false_and, Bool.and_false, Int.reduceBNe, Int.reduceBEq, Int.reduceLT, Int.reduceLE, decide_true, decide_false]
      refine same_s h5.b1.drop ?_
      simp only [show decide ((256 : Nat) = 256 ∧ cutL rs below = cutL rs below) = true from by simp]
      try simp only [bnd_some, brV_t, brV_f, brG_t, brG_f, newE_u, pickE_t, pickE_f, nilV_p, faV_p, cells_int, cells_bool, cells_ptr, cells_slice, cells_func, cells_agg, bin_eql, bin_neq, bin_lss, bin_leq, bin_gtr, bin_geq, bin_eqlb, bin_neqb, bin_eqlp, bin_eqlp0, bin_neqp, bin_neqp0, bin_eqls, bin_eqls0, un_not, un_neg, len_s, cap_s, ex_t, cv_i, callV_f, Option.bind_some, Option.map_some, Nat.zero_add, Nat.add_zero, Nat.reduceAdd, Nat.reduceMul, size_newB, size_setB, blk_newB_self, own_newB_self, setB_setB, List.getElem?_toArray, List.getElem?_cons_zero, List.getElem?_cons_succ, List.length_cons, List.length_nil, List.all_cons, List.all_nil, isCell_int, isCell_bool, isCell_ptr, isCell_slice, isCell_func, Bool.and_true, Bool.and_self, and_self, if_true, List.size_toArray, and_true, true_and, Nat.reduceLeDiff, Nat.le_refl, Bool.not_true, Bool.not_false, Bool.true_and, Bool.false_and, Bool.and_false, Int.reduceBNe, Int.reduceBEq, Int.reduceLT, Int.reduceLE, decide_true, decide_false]
      refine count_s h5 fun K6 h6 => ?_
      have : (cnt (cutL rs below) == sumB f 101) = true := by rw [hsum]; simp
      try simp only [bnd_some, brV_t, brV_f, brG_t, brG_f, newE_u, pickE_t, pickE_f, nilV_p, faV_p, cells_int, cells_bool, cells_ptr, cells_slice, cells_func, cells_agg, bin_eql, bin_neq, bin_lss, bin_leq, bin_gtr, bin_geq, bin_eqlb, bin_neqb, bin_eqlp, bin_eqlp0, bin_neqp, bin_neqp0, bin_eqls, bin_eqls0, un_not, un_neg, len_s, cap_s, ex_t, cv_i, callV_f, Option.bind_some, Option.map_some, Nat.zero_add, Nat.add_zero, Nat.reduceAdd, Nat.reduceMul, size_newB, size_setB, blk_newB_self, own_newB_self, setB_setB, List.getElem?_toArray, List.getElem?_cons_zero, List.getElem?_cons_succ, List.length_cons, List.length_nil, List.all_cons, List.all_nil, isCell_int, isCell_bool, isCell_ptr, isCell_slice, isCell_func, Bool.and_true, Bool.and_self, and_self, if_true, List.size_toArray, and_true, true_and, Nat.reduceLeDiff, Nat.le_refl, Bool.not_true, Bool.not_false, Bool.true_and, Bool.false_and, Bool.and_false, Int.reduceBNe, Int.reduceBEq, Int.reduceLT, Int.reduceLE, decide_true, decide_false, this]
      exact hR K6 h6.only
end Go.Hc

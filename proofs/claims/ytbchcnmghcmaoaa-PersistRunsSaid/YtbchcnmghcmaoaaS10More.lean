/- PersistMore: the statement. -/
import Derived.Test.YtbchcnmghcmaoaaS10H
set_option linter.unusedSimpArgs false
set_option linter.unusedVariables false
namespace Go.Hc
open Go

theorem Sep.ack {H H' : Heap} {s room : Nat} {rs : List Rng} {Qs : List Asr} (h : Sep H H' (setA s room rs :: Qs)) : AckV H' (ptr s) rs := by
  obtain ⟨T, a⟩ := h.set_h
  exact .inr ⟨s, room, T, rfl, a⟩
theorem SMore_ev {H : Heap} {v1 v2 : Value} {l : List (Fin 3 → Int)} {m : List Int} {y : Fin 3 → Int} {R : Value → Heap → Prop} (hv1 : ShowA (intsE 3) H v1 l) (hin1 : ∀ y ∈ l, ∀ i, In64 (y i))
    (hv2 : ShowA intE H v2 m) (hin2 : ∀ y ∈ m, In64 y) (hc2 : CutOK v2) (hy : ∀ i, In64 (y i)) (hR : ∀ H', Ext [] H H' → R (.bool true) H') : EvL P N.sounderlaw10_PersistMore #[v1, v2, .agg ((intsE 3).c y)] H R := by
  refine sounderlaw10_PersistMore_ev0 _ _ _ _ _ ?_
  have hsm := hv2.small
  rw [ints3]
  simp only [sounderlaw10_PersistMore, sounderlaw10_PersistMore_g21, sounderlaw10_PersistMore_g22]
  try simp only [bnd_some, brV_t, brV_f, brG_t, brG_f, newE_u, pickE_t, pickE_f, nilV_p, faV_p, cells_int, cells_bool, cells_ptr, cells_slice, cells_func, cells_agg, bin_eql, bin_neq, bin_lss, bin_leq, bin_gtr, bin_geq, bin_eqlb, bin_neqb, bin_eqlp, bin_eqlp0, bin_neqp, bin_neqp0, bin_eqls, bin_eqls0, un_not, un_neg, len_s, cap_s, ex_t, cv_i, callV_f, Option.bind_some, Option.map_some, Nat.zero_add, Nat.add_zero, Nat.reduceAdd, Nat.reduceMul, size_newB, size_setB, blk_newB_self, own_newB_self, setB_setB, List.getElem?_toArray, List.getElem?_cons_zero, List.getElem?_cons_succ, List.length_cons, List.length_nil, List.all_cons, List.all_nil, isCell_int, isCell_bool, isCell_ptr, isCell_slice, isCell_func, Bool.and_true, Bool.and_self, and_self, if_true, List.size_toArray, and_true, true_and, Nat.reduceLeDiff, Nat.le_refl, Bool.not_true, Bool.not_false, Bool.true_and, Bool.false_and, Bool.and_false, Int.reduceBNe, Int.reduceBEq, Int.reduceLT, Int.reduceLE, decide_true, decide_false]
  generalize hK1 : newB H _ _ = K1
  have e1 : Ext [] H K1 := by rw [← hK1]; exact (Ext.refl _ _).newB _ _
  have q1 : own K1 H.size = some #[iv (y 0), iv (y 1), iv (y 2)] := by rw [← hK1]; exact own_newB_self
  have ix0 : ixAV 1 3 (.pointer (some ⟨H.size, 0, none⟩)) (.int .i64 0) = some (.pointer (some ⟨H.size, 0, none⟩)) := rfl
  have ix1 : ixAV 1 3 (.pointer (some ⟨H.size, 0, none⟩)) (.int .i64 1) = some (.pointer (some ⟨H.size, 1, none⟩)) := rfl
  have ix2 : ixAV 1 3 (.pointer (some ⟨H.size, 0, none⟩)) (.int .i64 2) = some (.pointer (some ⟨H.size, 2, none⟩)) := rfl
  have g0 : (#[iv (y 0), iv (y 1), iv (y 2)] : Array Value)[0]? = some (iv (y 0)) := rfl
  have g1 : (#[iv (y 0), iv (y 1), iv (y 2)] : Array Value)[1]? = some (iv (y 1)) := rfl
  have g2 : (#[iv (y 0), iv (y 1), iv (y 2)] : Array Value)[2]? = some (iv (y 2)) := rfl
  refine made_ev (hv1.ext e1) hin1 fun K2 vp ps e2 hp cp rise => ?_
  have q2 := e2.own q1 (by simp)
  simp only [sounderlaw10_PersistMore_g23]
  try simp only [bnd_some, brV_t, brV_f, brG_t, brG_f, newE_u, pickE_t, pickE_f, nilV_p, faV_p, cells_int, cells_bool, cells_ptr, cells_slice, cells_func, cells_agg, bin_eql, bin_neq, bin_lss, bin_leq, bin_gtr, bin_geq, bin_eqlb, bin_neqb, bin_eqlp, bin_eqlp0, bin_neqp, bin_neqp0, bin_eqls, bin_eqls0, un_not, un_neg, len_s, cap_s, ex_t, cv_i, callV_f, Option.bind_some, Option.map_some, Nat.zero_add, Nat.add_zero, Nat.reduceAdd, Nat.reduceMul, size_newB, size_setB, blk_newB_self, own_newB_self, setB_setB, List.getElem?_toArray, List.getElem?_cons_zero, List.getElem?_cons_succ, List.length_cons, List.length_nil, List.all_cons, List.all_nil, isCell_int, isCell_bool, isCell_ptr, isCell_slice, isCell_func, Bool.and_true, Bool.and_self, and_self, if_true, List.size_toArray, and_true, true_and, Nat.reduceLeDiff, Nat.le_refl, Bool.not_true, Bool.not_false, Bool.true_and, Bool.false_and, Bool.and_false, Int.reduceBNe, Int.reduceBEq, Int.reduceLT, Int.reduceLE, decide_true, decide_false, ix2, ldE_f, own_blk q2, g2]
  refine Bring_ev (hy 2) (by decide) ?_
  have b1 := bring_r (i := y 2) (n := 34359738368) (by decide)
  obtain ⟨first, hfirst⟩ : ∃ s, s = bring (y 2) 34359738368 := ⟨_, rfl⟩
  rw [← hfirst] at b1 ⊢
  obtain ⟨mm, hmm⟩ : ∃ mm, mm = min m.length 40 := ⟨_, rfl⟩
  have hmin : foldV min2V (iv m.length) [.int .i64 40] = some (iv mm) := by
    have : foldV min2V (iv (m.length : Int)) [iv 40] = some (iv (min (m.length : Int) 40)) := min_iv
    rw [show (Value.int .i64 40) = iv 40 from rfl, this]; congr 2; omega
  have E2 := e1.trans e2
  obtain ⟨v2', hs1, hv2', hc2'⟩ := hv2.take hc2 (show mm ≤ m.length by omega) (k := .i64) (rfl : (mm : Int) = mm)
  have hs1' : sliceV 1 v2 none (some (iv mm)) = _ := hs1
  obtain ⟨M, hM⟩ : ∃ M, M = m.take mm := ⟨_, rfl⟩
  rw [← hM] at hv2'
  have hMl : M.length = mm := by rw [hM, List.length_take]; omega
  have hinM : ∀ x ∈ M, In64 x := fun x hx => hin2 x (List.mem_of_mem_take (hM ▸ hx))
  simp only [sounderlaw10_PersistMore_g24]
  try simp only [bnd_some, brV_t, brV_f, brG_t, brG_f, newE_u, pickE_t, pickE_f, nilV_p, faV_p, cells_int, cells_bool, cells_ptr, cells_slice, cells_func, cells_agg, bin_eql, bin_neq, bin_lss, bin_leq, bin_gtr, bin_geq, bin_eqlb, bin_neqb, bin_eqlp, bin_eqlp0, bin_neqp, bin_neqp0, bin_eqls, bin_eqls0, un_not, un_neg, len_s, cap_s, ex_t, cv_i, callV_f, Option.bind_some, Option.map_some, Nat.zero_add, Nat.add_zero, Nat.reduceAdd, Nat.reduceMul, size_newB, size_setB, blk_newB_self, own_newB_self, setB_setB, List.getElem?_toArray, List.getElem?_cons_zero, List.getElem?_cons_succ, List.length_cons, List.length_nil, List.all_cons, List.all_nil, isCell_int, isCell_bool, isCell_ptr, isCell_slice, isCell_func, Bool.and_true, Bool.and_self, and_self, if_true, List.size_toArray, and_true, true_and, Nat.reduceLeDiff, Nat.le_refl, Bool.not_true, Bool.not_false, Bool.true_and, Bool.false_and, Bool.and_false, Int.reduceBNe, Int.reduceBEq, Int.reduceLT, Int.reduceLE, decide_true, decide_false, hv2.len, hmin, hs1']
  have w1 : IntKind.i64.wrap ((M.length : Int) + 1) = ((M.length + 1 : Nat) : Int) := by rw [wrap_in (by omega)]; omega
  simp only [sounderlaw10_PersistMore_g25]
  try simp only [bnd_some, brV_t, brV_f, brG_t, brG_f, newE_u, pickE_t, pickE_f, nilV_p, faV_p, cells_int, cells_bool, cells_ptr, cells_slice, cells_func, cells_agg, bin_eql, bin_neq, bin_lss, bin_leq, bin_gtr, bin_geq, bin_eqlb, bin_neqb, bin_eqlp, bin_eqlp0, bin_neqp, bin_neqp0, bin_eqls, bin_eqls0, un_not, un_neg, len_s, cap_s, ex_t, cv_i, callV_f, Option.bind_some, Option.map_some, Nat.zero_add, Nat.add_zero, Nat.reduceAdd, Nat.reduceMul, size_newB, size_setB, blk_newB_self, own_newB_self, setB_setB, List.getElem?_toArray, List.getElem?_cons_zero, List.getElem?_cons_succ, List.length_cons, List.length_nil, List.all_cons, List.all_nil, isCell_int, isCell_bool, isCell_ptr, isCell_slice, isCell_func, Bool.and_true, Bool.and_self, and_self, if_true, List.size_toArray, and_true, true_and, Nat.reduceLeDiff, Nat.le_refl, Bool.not_true, Bool.not_false, Bool.true_and, Bool.false_and, Bool.and_false, Int.reduceBNe, Int.reduceBEq, Int.reduceLT, Int.reduceLE, decide_true, decide_false, ix1, ldE_f, own_blk q2, g1, hv2'.len, bin_add, w1]
  refine marks_ev (hv2'.ext E2) hinM fun K3 s rs e3 h3 hmem => ?_
  have q3 := e3.own q2 (by simp)
  try simp only [bnd_some, brV_t, brV_f, brG_t, brG_f, newE_u, pickE_t, pickE_f, nilV_p, faV_p, cells_int, cells_bool, cells_ptr, cells_slice, cells_func, cells_agg, bin_eql, bin_neq, bin_lss, bin_leq, bin_gtr, bin_geq, bin_eqlb, bin_neqb, bin_eqlp, bin_eqlp0, bin_neqp, bin_neqp0, bin_eqls, bin_eqls0, un_not, un_neg, len_s, cap_s, ex_t, cv_i, callV_f, Option.bind_some, Option.map_some, Nat.zero_add, Nat.add_zero, Nat.reduceAdd, Nat.reduceMul, size_newB, size_setB, blk_newB_self, own_newB_self, setB_setB, List.getElem?_toArray, List.getElem?_cons_zero, List.getElem?_cons_succ, List.length_cons, List.length_nil, List.all_cons, List.all_nil, isCell_int, isCell_bool, isCell_ptr, isCell_slice, isCell_func, Bool.and_true, Bool.and_self, and_self, if_true, List.size_toArray, and_true, true_and, Nat.reduceLeDiff, Nat.le_refl, Bool.not_true, Bool.not_false, Bool.true_and, Bool.false_and, Bool.and_false, Int.reduceBNe, Int.reduceBEq, Int.reduceLT, Int.reduceLE, decide_true, decide_false, ldE_f, own_blk q3, g1]
  refine Bring_ev (hy 1) (by omega) ?_
  have b2 := bring_r (i := y 1) (n := ((M.length + 1 : Nat) : Int)) (by omega)
  obtain ⟨k, hk⟩ : ∃ n : Nat, (n : Int) = bring (y 1) ((M.length + 1 : Nat) : Int) := ⟨(bring (y 1) ((M.length + 1 : Nat) : Int)).toNat, by omega⟩
  rw [← hk]
  obtain ⟨v3, hs3, hv3, hc3⟩ := hv2'.take hc2' (show k ≤ M.length by omega) (k := .i64) (rfl : (k : Int) = k)
  have hs3' : sliceV 1 v2' none (some (iv k)) = _ := hs3
  have E3 := E2.trans e3
  try simp only [bnd_some, brV_t, brV_f, brG_t, brG_f, newE_u, pickE_t, pickE_f, nilV_p, faV_p, cells_int, cells_bool, cells_ptr, cells_slice, cells_func, cells_agg, bin_eql, bin_neq, bin_lss, bin_leq, bin_gtr, bin_geq, bin_eqlb, bin_neqb, bin_eqlp, bin_eqlp0, bin_neqp, bin_neqp0, bin_eqls, bin_eqls0, un_not, un_neg, len_s, cap_s, ex_t, cv_i, callV_f, Option.bind_some, Option.map_some, Nat.zero_add, Nat.add_zero, Nat.reduceAdd, Nat.reduceMul, size_newB, size_setB, blk_newB_self, own_newB_self, setB_setB, List.getElem?_toArray, List.getElem?_cons_zero, List.getElem?_cons_succ, List.length_cons, List.length_nil, List.all_cons, List.all_nil, isCell_int, isCell_bool, isCell_ptr, isCell_slice, isCell_func, Bool.and_true, Bool.and_self, and_self, if_true, List.size_toArray, and_true, true_and, Nat.reduceLeDiff, Nat.le_refl, Bool.not_true, Bool.not_false, Bool.true_and, Bool.false_and, Bool.and_false, Int.reduceBNe, Int.reduceBEq, Int.reduceLT, Int.reduceLE, decide_true, decide_false, hs3']
  refine marks_ev (hv3.ext E3) (fun x hx => hinM x (List.mem_of_mem_take hx)) fun K4 s2 rs2 e4 h4 hmem2 => ?_
  have q4 := e4.own q3 (by simp)
  have hps := hp.small
  have w2 : IntKind.i64.wrap ((ps.length : Int) + 1) = ((ps.length + 1 : Nat) : Int) := by have := rise.few; rw [wrap_in (by omega)]; omega
  simp only [sounderlaw10_PersistMore_g26]
  try simp only [bnd_some, brV_t, brV_f, brG_t, brG_f, newE_u, pickE_t, pickE_f, nilV_p, faV_p, cells_int, cells_bool, cells_ptr, cells_slice, cells_func, cells_agg, bin_eql, bin_neq, bin_lss, bin_leq, bin_gtr, bin_geq, bin_eqlb, bin_neqb, bin_eqlp, bin_eqlp0, bin_neqp, bin_neqp0, bin_eqls, bin_eqls0, un_not, un_neg, len_s, cap_s, ex_t, cv_i, callV_f, Option.bind_some, Option.map_some, Nat.zero_add, Nat.add_zero, Nat.reduceAdd, Nat.reduceMul, size_newB, size_setB, blk_newB_self, own_newB_self, setB_setB, List.getElem?_toArray, List.getElem?_cons_zero, List.getElem?_cons_succ, List.length_cons, List.length_nil, List.all_cons, List.all_nil, isCell_int, isCell_bool, isCell_ptr, isCell_slice, isCell_func, Bool.and_true, Bool.and_self, and_self, if_true, List.size_toArray, and_true, true_and, Nat.reduceLeDiff, Nat.le_refl, Bool.not_true, Bool.not_false, Bool.true_and, Bool.false_and, Bool.and_false, Int.reduceBNe, Int.reduceBEq, Int.reduceLT, Int.reduceLE, decide_true, decide_false, ix0, ldE_f, own_blk q4, g0, hp.len, bin_add, w2]
  refine Bring_ev (hy 0) (by have := rise.few; omega) ?_
  have b3 := bring_r (i := y 0) (n := ((ps.length + 1 : Nat) : Int)) (by have := rise.few; omega)
  obtain ⟨k2, hk2⟩ : ∃ n : Nat, (n : Int) = bring (y 0) ((ps.length + 1 : Nat) : Int) := ⟨(bring (y 0) ((ps.length + 1 : Nat) : Int)).toNat, by omega⟩
  rw [← hk2]
  obtain ⟨vf, hsf, hvf, hcf⟩ := hp.take cp (show k2 ≤ ps.length by omega) (k := .i64) (rfl : (k2 : Int) = k2)
  have hsf' : sliceV 6 vp none (some (iv k2)) = _ := hsf
  have E34 := e3.trans e4
  have E4 := E3.trans e4
  try simp only [bnd_some, brV_t, brV_f, brG_t, brG_f, newE_u, pickE_t, pickE_f, nilV_p, faV_p, cells_int, cells_bool, cells_ptr, cells_slice, cells_func, cells_agg, bin_eql, bin_neq, bin_lss, bin_leq, bin_gtr, bin_geq, bin_eqlb, bin_neqb, bin_eqlp, bin_eqlp0, bin_neqp, bin_neqp0, bin_eqls, bin_eqls0, un_not, un_neg, len_s, cap_s, ex_t, cv_i, callV_f, Option.bind_some, Option.map_some, Nat.zero_add, Nat.add_zero, Nat.reduceAdd, Nat.reduceMul, size_newB, size_setB, blk_newB_self, own_newB_self, setB_setB, List.getElem?_toArray, List.getElem?_cons_zero, List.getElem?_cons_succ, List.length_cons, List.length_nil, List.all_cons, List.all_nil, isCell_int, isCell_bool, isCell_ptr, isCell_slice, isCell_func, Bool.and_true, Bool.and_self, and_self, if_true, List.size_toArray, and_true, true_and, Nat.reduceLeDiff, Nat.le_refl, Bool.not_true, Bool.not_false, Bool.true_and, Bool.false_and, Bool.and_false, Int.reduceBNe, Int.reduceBEq, Int.reduceLT, Int.reduceLE, decide_true, decide_false, hsf']
  have hfr : 0 ≤ first ∧ first ≤ 9007199254740991 := by omega
  have a1 := h3.ack.ext e4
  have a2 := h4.ack
  simp only [sounderlaw10_PersistMore_g27]
  refine Period_ev (hp.ext E34) cp a1 fun K5 e5 => ?_
  rw [rise.period hfr]
  obtain ⟨A, hA⟩ : ∃ A, A = perS rs first ps := ⟨_, rfl⟩
  have fA := perS_finds rs first ps
  rw [← hA] at fA ⊢
  simp only [perV, sounderlaw10_PersistMore_g28]
  try simp only [bnd_some, brV_t, brV_f, brG_t, brG_f, newE_u, pickE_t, pickE_f, nilV_p, faV_p, cells_int, cells_bool, cells_ptr, cells_slice, cells_func, cells_agg, bin_eql, bin_neq, bin_lss, bin_leq, bin_gtr, bin_geq, bin_eqlb, bin_neqb, bin_eqlp, bin_eqlp0, bin_neqp, bin_neqp0, bin_eqls, bin_eqls0, un_not, un_neg, len_s, cap_s, ex_t, cv_i, callV_f, Option.bind_some, Option.map_some, Nat.zero_add, Nat.add_zero, Nat.reduceAdd, Nat.reduceMul, size_newB, size_setB, blk_newB_self, own_newB_self, setB_setB, List.getElem?_toArray, List.getElem?_cons_zero, List.getElem?_cons_succ, List.length_cons, List.length_nil, List.all_cons, List.all_nil, isCell_int, isCell_bool, isCell_ptr, isCell_slice, isCell_func, Bool.and_true, Bool.and_self, and_self, if_true, List.size_toArray, and_true, true_and, Nat.reduceLeDiff, Nat.le_refl, Bool.not_true, Bool.not_false, Bool.true_and, Bool.false_and, Bool.and_false, Int.reduceBNe, Int.reduceBEq, Int.reduceLT, Int.reduceLE, decide_true, decide_false]
  refine Period_ev (hvf.ext (E34.trans e5)) hcf (a1.ext e5) fun K6 e6 => ?_
  rw [(rise.sub (List.take_sublist k2 ps)).period hfr]
  obtain ⟨B, hB⟩ : ∃ B, B = perS rs first (ps.take k2) := ⟨_, rfl⟩
  have fB := perS_finds rs first (ps.take k2)
  rw [← hB] at fB ⊢
  simp only [perV, sounderlaw10_PersistMore_g29]
  try simp only [bnd_some, brV_t, brV_f, brG_t, brG_f, newE_u, pickE_t, pickE_f, nilV_p, faV_p, cells_int, cells_bool, cells_ptr, cells_slice, cells_func, cells_agg, bin_eql, bin_neq, bin_lss, bin_leq, bin_gtr, bin_geq, bin_eqlb, bin_neqb, bin_eqlp, bin_eqlp0, bin_neqp, bin_neqp0, bin_eqls, bin_eqls0, un_not, un_neg, len_s, cap_s, ex_t, cv_i, callV_f, Option.bind_some, Option.map_some, Nat.zero_add, Nat.add_zero, Nat.reduceAdd, Nat.reduceMul, size_newB, size_setB, blk_newB_self, own_newB_self, setB_setB, List.getElem?_toArray, List.getElem?_cons_zero, List.getElem?_cons_succ, List.length_cons, List.length_nil, List.all_cons, List.all_nil, isCell_int, isCell_bool, isCell_ptr, isCell_slice, isCell_func, Bool.and_true, Bool.and_self, and_self, if_true, List.size_toArray, and_true, true_and, Nat.reduceLeDiff, Nat.le_refl, Bool.not_true, Bool.not_false, Bool.true_and, Bool.false_and, Bool.and_false, Int.reduceBNe, Int.reduceBEq, Int.reduceLT, Int.reduceLE, decide_true, decide_false]
  refine Period_ev (hp.ext (E34.trans (e5.trans e6))) cp (a2.ext (e5.trans e6)) fun K7 e7 => ?_
  rw [rise.period hfr]
  obtain ⟨C, hC⟩ : ∃ C, C = perS rs2 first ps := ⟨_, rfl⟩
  have fC := perS_finds rs2 first ps
  rw [← hC] at fC ⊢
  have E7 : Ext [] H K7 := E4.trans (e5.trans (e6.trans e7))
  have hAB := fB.le fA fun a b h => h.mono (fun _ _ h => h) (List.take_sublist k2 ps)
  have hsub : ∀ n, Mem rs2 n → Mem rs n := fun n hn => by
    obtain ⟨x, hx, hb⟩ := (hmem2 n).1 hn
    refine (hmem n).2 ⟨x, ?_, hb⟩
    have hxM : x ∈ M := List.mem_of_mem_take (List.mem_of_mem_take hx)
    rwa [List.take_of_length_le (by omega)]
  have hAC := fA.le fC fun a b h => h.mono (fun _ _ h => pairOK_mono h3.set_ok.2.1 h4.set_ok.2.1 hsub h) (List.Sublist.refl ps)
  have W : EvF P N.sounderlaw10_works #[] K7 (fun v H => R v H) := works10_ev fun K'' e' => hR K'' (E7.trans e')
  simp only [perV, sounderlaw10_PersistMore_g30]
  try simp only [bnd_some, brV_t, brV_f, brG_t, brG_f, newE_u, pickE_t, pickE_f, nilV_p, faV_p, cells_int, cells_bool, cells_ptr, cells_slice, cells_func, cells_agg, bin_eql, bin_neq, bin_lss, bin_leq, bin_gtr, bin_geq, bin_eqlb, bin_neqb, bin_eqlp, bin_eqlp0, bin_neqp, bin_neqp0, bin_eqls, bin_eqls0, un_not, un_neg, len_s, cap_s, ex_t, cv_i, callV_f, Option.bind_some, Option.map_some, Nat.zero_add, Nat.add_zero, Nat.reduceAdd, Nat.reduceMul, size_newB, size_setB, blk_newB_self, own_newB_self, setB_setB, List.getElem?_toArray, List.getElem?_cons_zero, List.getElem?_cons_succ, List.length_cons, List.length_nil, List.all_cons, List.all_nil, isCell_int, isCell_bool, isCell_ptr, isCell_slice, isCell_func, Bool.and_true, Bool.and_self, and_self, if_true, List.size_toArray, and_true, true_and, Nat.reduceLeDiff, Nat.le_refl, Bool.not_true, Bool.not_false, Bool.true_and, Bool.false_and, Bool.and_false, Int.reduceBNe, Int.reduceBEq, Int.reduceLT, Int.reduceLE, decide_true, decide_false]
  cases hb : B.2.2.2 with
  | false =>
    cases ha : A.2.2.2 with
    | false =>
      simp only [Bool.not_false]
      try simp only [bnd_some, brV_t, brV_f, brG_t, brG_f, newE_u, pickE_t, pickE_f, nilV_p, faV_p, cells_int, cells_bool, cells_ptr, cells_slice, cells_func, cells_agg, bin_eql, bin_neq, bin_lss, bin_leq, bin_gtr, bin_geq, bin_eqlb, bin_neqb, bin_eqlp, bin_eqlp0, bin_neqp, bin_neqp0, bin_eqls, bin_eqls0, un_not, un_neg, len_s, cap_s, ex_t, cv_i, callV_f, Option.bind_some, Option.map_some, Nat.zero_add, Nat.add_zero, Nat.reduceAdd, Nat.reduceMul, size_newB, size_setB, blk_newB_self, own_newB_self, setB_setB, List.getElem?_toArray, List.getElem?_cons_zero, List.getElem?_cons_succ, List.length_cons, List.length_nil, List.all_cons, List.all_nil, isCell_int, isCell_bool, isCell_ptr, isCell_slice, isCell_func, Bool.and_true, Bool.and_self, and_self, if_true, List.size_toArray, and_true, true_and, Nat.reduceLeDiff, Nat.le_refl, Bool.not_true, Bool.not_false, Bool.true_and, Bool.false_and, Bool.and_false, Int.reduceBNe, Int.reduceBEq, Int.reduceLT, Int.reduceLE, decide_true, decide_false]
      exact W
    | true =>
      obtain ⟨hc, hle⟩ := hAC ha
      simp only [Bool.not_false, Bool.not_true, hc]
      try simp only [bnd_some, brV_t, brV_f, brG_t, brG_f, newE_u, pickE_t, pickE_f, nilV_p, faV_p, cells_int, cells_bool, cells_ptr, cells_slice, cells_func, cells_agg, bin_eql, bin_neq, bin_lss, bin_leq, bin_gtr, bin_geq, bin_eqlb, bin_neqb, bin_eqlp, bin_eqlp0, bin_neqp, bin_neqp0, bin_eqls, bin_eqls0, un_not, un_neg, len_s, cap_s, ex_t, cv_i, callV_f, Option.bind_some, Option.map_some, Nat.zero_add, Nat.add_zero, Nat.reduceAdd, Nat.reduceMul, size_newB, size_setB, blk_newB_self, own_newB_self, setB_setB, List.getElem?_toArray, List.getElem?_cons_zero, List.getElem?_cons_succ, List.length_cons, List.length_nil, List.all_cons, List.all_nil, isCell_int, isCell_bool, isCell_ptr, isCell_slice, isCell_func, Bool.and_true, Bool.and_self, and_self, if_true, List.size_toArray, and_true, true_and, Nat.reduceLeDiff, Nat.le_refl, Bool.not_true, Bool.not_false, Bool.true_and, Bool.false_and, Bool.and_false, Int.reduceBNe, Int.reduceBEq, Int.reduceLT, Int.reduceLE, decide_true, decide_false, decide_eq_true hle]
      exact W
  | true =>
    obtain ⟨ha, hle⟩ := hAB hb
    obtain ⟨hc, hle2⟩ := hAC ha
    simp only [ha, hc, Bool.not_true]
    try simp only [bnd_some, brV_t, brV_f, brG_t, brG_f, newE_u, pickE_t, pickE_f, nilV_p, faV_p, cells_int, cells_bool, cells_ptr, cells_slice, cells_func, cells_agg, bin_eql, bin_neq, bin_lss, bin_leq, bin_gtr, bin_geq, bin_eqlb, bin_neqb, bin_eqlp, bin_eqlp0, bin_neqp, bin_neqp0, bin_eqls, bin_eqls0, un_not, un_neg, len_s, cap_s, ex_t, cv_i, callV_f, Option.bind_some, Option.map_some, Nat.zero_add, Nat.add_zero, Nat.reduceAdd, Nat.reduceMul, size_newB, size_setB, blk_newB_self, own_newB_self, setB_setB, List.getElem?_toArray, List.getElem?_cons_zero, List.getElem?_cons_succ, List.length_cons, List.length_nil, List.all_cons, List.all_nil, isCell_int, isCell_bool, isCell_ptr, isCell_slice, isCell_func, Bool.and_true, Bool.and_self, and_self, if_true, List.size_toArray, and_true, true_and, Nat.reduceLeDiff, Nat.le_refl, Bool.not_true, Bool.not_false, Bool.true_and, Bool.false_and, Bool.and_false, Int.reduceBNe, Int.reduceBEq, Int.reduceLT, Int.reduceLE, decide_true, decide_false, decide_eq_true hle, decide_eq_true hle2]
    exact W
end Go.Hc

/- PersistIs: the statement. -/
import Derived.Test.YtbchcnmghcmaoaaS10F
import Derived.Test.YtbchcnmghcmaoaaHcU
set_option linter.unusedSimpArgs false
set_option linter.unusedVariables false
namespace Go.Hc
open Go

theorem two_period {x : Int} (h0 : 0 ≤ x) (h1 : x ≤ 4503599627370496) : period [] 7 [atP 1 8, atP 2 (8 + x)] = (x, 1, 2, true) := by
  have hok : okL [atP 1 8, atP 2 (8 + x)] = true := okL_of fun k hk => by
    match k, hk with
    | 0, _ => exact okP_spec.2 (by simp [lastN, atP])
    | 1, _ => exact okP_spec.2 (by simp [lastN, atP]; omega)
  have hce : checkE [atP 1 8, atP 2 (8 + x)] = 0 := by
    unfold checkE; rw [if_neg (by simp), if_pos hok]
  unfold period
  rw [if_pos ⟨hce, by decide⟩]
  have c1 : decide ((7 : Int) < 8 + x) = true := decide_eq_true (by omega)
  have c2 : decide ((8 : Int) ≤ 8 + x) = true := decide_eq_true (by omega)
  have c3 : (8 : Int) + x - 8 = x := by omega
  simp [perS, outerF, innerF, pairOK, cntP, betw, keepS, atP, c3]
  exact ⟨decide_eq_true (by omega), decide_eq_true (by omega)⟩
theorem one_period {rs : List Rng} {first : Int} {p : Pkt} : period rs first [p] = (0, 0, 0, false) := by
  unfold period; split <;> rfl
theorem SIs_ev {H : Heap} {d smooth m0 m1 : Int} {R : Value → Heap → Prop} (hd : In64 d) (hs : In64 smooth) (h0 : In64 m0) (h1 : In64 m1)
    (hR : ∀ H', Ext [] H H' → R (.bool true) H') : EvL P N.sounderlaw10_PersistIs #[iv d, iv smooth, .agg #[iv m0, iv m1]] H R := by
  refine sounderlaw10_PersistIs_ev0 _ _ _ _ _ ?_
  simp only [sounderlaw10_PersistIs, sounderlaw10_PersistIs_g21, sounderlaw10_PersistIs_g22]
  try simp only [bnd_some, brV_t, brV_f, brG_t, brG_f, newE_u, pickE_t, pickE_f, nilV_p, faV_p, cells_int, cells_bool, cells_ptr, cells_slice, cells_func, cells_agg, bin_eql, bin_neq, bin_lss, bin_leq, bin_gtr, bin_geq, bin_eqlb, bin_neqb, bin_eqlp, bin_eqlp0, bin_neqp, bin_neqp0, bin_eqls, bin_eqls0, un_not, un_neg, len_s, cap_s, ex_t, cv_i, callV_f, Option.bind_some, Option.map_some, Nat.zero_add, Nat.add_zero, Nat.reduceAdd, Nat.reduceMul, size_newB, size_setB, blk_newB_self, own_newB_self, setB_setB, List.getElem?_toArray, List.getElem?_cons_zero, List.getElem?_cons_succ, List.length_cons, List.length_nil, List.all_cons, List.all_nil, isCell_int, isCell_bool, isCell_ptr, isCell_slice, isCell_func, Bool.and_true, Bool.and_self, and_self, if_true, List.size_toArray, and_true, true_and, Nat.reduceLeDiff, Nat.le_refl, Bool.not_true, Bool.not_false, Bool.true_and, Bool.false_and, Bool.and_false, Int.reduceBNe, Int.reduceBEq, Int.reduceLT, Int.reduceLE, decide_true, decide_false]
  generalize hK1 : newB H _ _ = K1
  have e1 : Ext [] H K1 := by rw [← hK1]; exact (Ext.refl _ _).newB _ _
  have q1 : own K1 H.size = some #[iv m0, iv m1] := by rw [← hK1]; exact own_newB_self
  refine Bring_ev hs (by decide) ?_
  have b1 := bring_r (i := smooth) (n := 1073741824) (by decide)
  obtain ⟨sm, hsm⟩ : ∃ s, s = bring smooth 1073741824 := ⟨_, rfl⟩
  rw [← hsm] at b1 ⊢
  have w1 : IntKind.i64.wrap (1 + sm) = 1 + sm := wrap_in (by omega)
  have ix0 : ixAV 1 2 (.pointer (some ⟨H.size, 0, none⟩)) (.int .i64 0) = some (.pointer (some ⟨H.size, 0, none⟩)) := rfl
  have ix1 : ixAV 1 2 (.pointer (some ⟨H.size, 0, none⟩)) (.int .i64 1) = some (.pointer (some ⟨H.size, 1, none⟩)) := rfl
  have g0 : (#[iv m0, iv m1] : Array Value)[0]? = some (iv m0) := rfl
  have g1 : (#[iv m0, iv m1] : Array Value)[1]? = some (iv m1) := rfl
  try simp only [bnd_some, brV_t, brV_f, brG_t, brG_f, newE_u, pickE_t, pickE_f, nilV_p, faV_p, cells_int, cells_bool, cells_ptr, cells_slice, cells_func, cells_agg, bin_eql, bin_neq, bin_lss, bin_leq, bin_gtr, bin_geq, bin_eqlb, bin_neqb, bin_eqlp, bin_eqlp0, bin_neqp, bin_neqp0, bin_eqls, bin_eqls0, un_not, un_neg, len_s, cap_s, ex_t, cv_i, callV_f, Option.bind_some, Option.map_some, Nat.zero_add, Nat.add_zero, Nat.reduceAdd, Nat.reduceMul, size_newB, size_setB, blk_newB_self, own_newB_self, setB_setB, List.getElem?_toArray, List.getElem?_cons_zero, List.getElem?_cons_succ, List.length_cons, List.length_nil, List.all_cons, List.all_nil, isCell_int, isCell_bool, isCell_ptr, isCell_slice, isCell_func, Bool.and_true, Bool.and_self, and_self, if_true, List.size_toArray, and_true, true_and, Nat.reduceLeDiff, Nat.le_refl, Bool.not_true, Bool.not_false, Bool.true_and, Bool.false_and, Bool.and_false, Int.reduceBNe, Int.reduceBEq, Int.reduceLT, Int.reduceLE, decide_true, decide_false, bin_add, w1]
  simp only [sounderlaw10_PersistIs_g23]
  try simp only [bnd_some, brV_t, brV_f, brG_t, brG_f, newE_u, pickE_t, pickE_f, nilV_p, faV_p, cells_int, cells_bool, cells_ptr, cells_slice, cells_func, cells_agg, bin_eql, bin_neq, bin_lss, bin_leq, bin_gtr, bin_geq, bin_eqlb, bin_neqb, bin_eqlp, bin_eqlp0, bin_neqp, bin_neqp0, bin_eqls, bin_eqls0, un_not, un_neg, len_s, cap_s, ex_t, cv_i, callV_f, Option.bind_some, Option.map_some, Nat.zero_add, Nat.add_zero, Nat.reduceAdd, Nat.reduceMul, size_newB, size_setB, blk_newB_self, own_newB_self, setB_setB, List.getElem?_toArray, List.getElem?_cons_zero, List.getElem?_cons_succ, List.length_cons, List.length_nil, List.all_cons, List.all_nil, isCell_int, isCell_bool, isCell_ptr, isCell_slice, isCell_func, Bool.and_true, Bool.and_self, and_self, if_true, List.size_toArray, and_true, true_and, Nat.reduceLeDiff, Nat.le_refl, Bool.not_true, Bool.not_false, Bool.true_and, Bool.false_and, Bool.and_false, Int.reduceBNe, Int.reduceBEq, Int.reduceLT, Int.reduceLE, decide_true, decide_false, ix0, ix1, ldE_f, own_blk q1, g0, g1]
  refine Bring_ev h0 (by decide) ?_
  have b2 := bring_r (i := m0) (n := 1073741824) (by decide)
  obtain ⟨va, hva⟩ : ∃ s, s = bring m0 1073741824 := ⟨_, rfl⟩
  rw [← hva] at b2 ⊢
  try simp only [bnd_some, brV_t, brV_f, brG_t, brG_f, newE_u, pickE_t, pickE_f, nilV_p, faV_p, cells_int, cells_bool, cells_ptr, cells_slice, cells_func, cells_agg, bin_eql, bin_neq, bin_lss, bin_leq, bin_gtr, bin_geq, bin_eqlb, bin_neqb, bin_eqlp, bin_eqlp0, bin_neqp, bin_neqp0, bin_eqls, bin_eqls0, un_not, un_neg, len_s, cap_s, ex_t, cv_i, callV_f, Option.bind_some, Option.map_some, Nat.zero_add, Nat.add_zero, Nat.reduceAdd, Nat.reduceMul, size_newB, size_setB, blk_newB_self, own_newB_self, setB_setB, List.getElem?_toArray, List.getElem?_cons_zero, List.getElem?_cons_succ, List.length_cons, List.length_nil, List.all_cons, List.all_nil, isCell_int, isCell_bool, isCell_ptr, isCell_slice, isCell_func, Bool.and_true, Bool.and_self, and_self, if_true, List.size_toArray, and_true, true_and, Nat.reduceLeDiff, Nat.le_refl, Bool.not_true, Bool.not_false, Bool.true_and, Bool.false_and, Bool.and_false, Int.reduceBNe, Int.reduceBEq, Int.reduceLT, Int.reduceLE, decide_true, decide_false, ix0, ix1, ldE_f, own_blk q1, g0, g1]
  refine Bring_ev h1 (by decide) ?_
  have b3 := bring_r (i := m1) (n := 1073741824) (by decide)
  obtain ⟨dl, hdl⟩ : ∃ s, s = bring m1 1073741824 := ⟨_, rfl⟩
  rw [← hdl] at b3 ⊢
  have hbR : buildV #[(.int .i64 0), (.int .i64 0), (.int .i64 0), (.int .i64 0), (.int .i64 0)] (places [(0, 1), (1, 1), (2, 1), (3, 1), (4, 1)]) [(0, iv (1 + sm)), (1, iv (1 + sm)), (2, iv (1 + sm)), (3, iv va), (4, (.int .i64 7))] = some (rtv ⟨1 + sm, 1 + sm, 1 + sm, va, 7⟩) := rfl
  have hsz : (#[.int .i64 0, .int .i64 0, .int .i64 0, .int .i64 0, .int .i64 0] : Array Value).size = 5 := rfl
  obtain ⟨r, hr⟩ : ∃ r : Rtt, r = ⟨1 + sm, 1 + sm, 1 + sm, va, 7⟩ := ⟨_, rfl⟩
  rw [← hr] at hbR
  have hrin : In64r r := by rw [hr]; unfold In64r In64; simp only; omega
  have hrok : rttOK r = true := by
    rw [hr]; unfold rttOK isT; rw [if_neg (show ¬ ((7 : Int) = -1) by decide)]; simp; omega
  obtain ⟨wt, hwt⟩ : ∃ wt, wt = 3 * (1 + sm + max (4 * va) 1000000 + dl) := ⟨_, rfl⟩
  have hbase : baseT r dl = 1 + sm + max (4 * va) 1000000 + dl := by unfold baseT clampT; rw [if_pos hrok, hr]; simp only; omega
  have hwait : waitT r dl = wt := by unfold waitT clampT; rw [hbase]; omega
  simp only [sounderlaw10_PersistIs_g24]
  try simp only [bnd_some, brV_t, brV_f, brG_t, brG_f, newE_u, pickE_t, pickE_f, nilV_p, faV_p, cells_int, cells_bool, cells_ptr, cells_slice, cells_func, cells_agg, bin_eql, bin_neq, bin_lss, bin_leq, bin_gtr, bin_geq, bin_eqlb, bin_neqb, bin_eqlp, bin_eqlp0, bin_neqp, bin_neqp0, bin_eqls, bin_eqls0, un_not, un_neg, len_s, cap_s, ex_t, cv_i, callV_f, Option.bind_some, Option.map_some, Nat.zero_add, Nat.add_zero, Nat.reduceAdd, Nat.reduceMul, size_newB, size_setB, blk_newB_self, own_newB_self, setB_setB, List.getElem?_toArray, List.getElem?_cons_zero, List.getElem?_cons_succ, List.length_cons, List.length_nil, List.all_cons, List.all_nil, isCell_int, isCell_bool, isCell_ptr, isCell_slice, isCell_func, Bool.and_true, Bool.and_self, and_self, if_true, List.size_toArray, and_true, true_and, Nat.reduceLeDiff, Nat.le_refl, Bool.not_true, Bool.not_false, Bool.true_and, Bool.false_and, Bool.and_false, Int.reduceBNe, Int.reduceBEq, Int.reduceLT, Int.reduceLE, decide_true, decide_false, hbR, st_rtt hsz]
  generalize hK2 : setB (newB K1 _ _) _ _ = K2
  have e2 : Ext [] K1 K2 := by rw [← hK2]; exact box_new.1
  have q2 : own K2 K1.size = some (rttC r) := by rw [← hK2]; exact box_new.2.1
  have v1 : IntKind.i64.wrap (4 * va) = 4 * va := wrap_in (by omega)
  have v2 : IntKind.i64.wrap (1 + sm + max (4 * va) 1000000) = 1 + sm + max (4 * va) 1000000 := wrap_in (by omega)
  have v3 : IntKind.i64.wrap (1 + sm + max (4 * va) 1000000 + dl) = 1 + sm + max (4 * va) 1000000 + dl := wrap_in (by omega)
  have v4 : IntKind.i64.wrap (3 * (1 + sm + max (4 * va) 1000000 + dl)) = wt := by rw [hwt, wrap_in (by omega)]
  simp only [sounderlaw10_PersistIs_g25]
  try simp only [bnd_some, brV_t, brV_f, brG_t, brG_f, newE_u, pickE_t, pickE_f, nilV_p, faV_p, cells_int, cells_bool, cells_ptr, cells_slice, cells_func, cells_agg, bin_eql, bin_neq, bin_lss, bin_leq, bin_gtr, bin_geq, bin_eqlb, bin_neqb, bin_eqlp, bin_eqlp0, bin_neqp, bin_neqp0, bin_eqls, bin_eqls0, un_not, un_neg, len_s, cap_s, ex_t, cv_i, callV_f, Option.bind_some, Option.map_some, Nat.zero_add, Nat.add_zero, Nat.reduceAdd, Nat.reduceMul, size_newB, size_setB, blk_newB_self, own_newB_self, setB_setB, List.getElem?_toArray, List.getElem?_cons_zero, List.getElem?_cons_succ, List.length_cons, List.length_nil, List.all_cons, List.all_nil, isCell_int, isCell_bool, isCell_ptr, isCell_slice, isCell_func, Bool.and_true, Bool.and_self, and_self, if_true, List.size_toArray, and_true, true_and, Nat.reduceLeDiff, Nat.le_refl, Bool.not_true, Bool.not_false, Bool.true_and, Bool.false_and, Bool.and_false, Int.reduceBNe, Int.reduceBEq, Int.reduceLT, Int.reduceLE, decide_true, decide_false, bin_mul, v1, max_iv, bin_add, v2, v3, v4]
  simp only [sounderlaw10_PersistIs_g26]
  refine Bring_ev hd (by decide) ?_
  have b4 := bring_r (i := d) (n := 34359738368) (by decide)
  obtain ⟨dd, hdd⟩ : ∃ s, s = bring d 34359738368 := ⟨_, rfl⟩
  rw [← hdd] at b4 ⊢
  have v5 : IntKind.i64.wrap (8 + dd) = 8 + dd := wrap_in (by omega)
  have v6 : IntKind.i64.wrap (8 + wt) = 8 + wt := wrap_in (by omega)
  have v7 : IntKind.i64.wrap (9 + wt) = 8 + (1 + wt) := by rw [wrap_in (by omega)]; omega
  have lit : ∀ {t : TypeId} {K : Heap} {p q : Pkt} {k : Value → Heap → Prop}, (∀ K' v, Ext [] K K' → ShowA pktE K' v [p, q] → CutOK v → k v K') →
      bslE t #[(.int .i64 0), (.int .i64 0), (.int .i64 0), (.bool false), (.bool false), (.bool false)] 6 2 [(0, pv p), (1, pv q)] K k := fun {t K p q k} hk => by
    refine bslE_l (E := pktE) (vs := [_, _]) (l := [p, q]) rfl rfl (fun i hi => ?_) (by decide) (by decide) fun K5 _ e5 o5 => ?_
    · match i, hi with
      | 0, _ => rfl
      | 1, _ => rfl
    exact hk K5 _ e5 o5.showA (CutOK.of_own o5)
  simp only [sounderlaw10_PersistIs_g27]
  refine at_ev fun K3 e3 => ?_
  try simp only [bnd_some, brV_t, brV_f, brG_t, brG_f, newE_u, pickE_t, pickE_f, nilV_p, faV_p, cells_int, cells_bool, cells_ptr, cells_slice, cells_func, cells_agg, bin_eql, bin_neq, bin_lss, bin_leq, bin_gtr, bin_geq, bin_eqlb, bin_neqb, bin_eqlp, bin_eqlp0, bin_neqp, bin_neqp0, bin_eqls, bin_eqls0, un_not, un_neg, len_s, cap_s, ex_t, cv_i, callV_f, Option.bind_some, Option.map_some, Nat.zero_add, Nat.add_zero, Nat.reduceAdd, Nat.reduceMul, size_newB, size_setB, blk_newB_self, own_newB_self, setB_setB, List.getElem?_toArray, List.getElem?_cons_zero, List.getElem?_cons_succ, List.length_cons, List.length_nil, List.all_cons, List.all_nil, isCell_int, isCell_bool, isCell_ptr, isCell_slice, isCell_func, Bool.and_true, Bool.and_self, and_self, if_true, List.size_toArray, and_true, true_and, Nat.reduceLeDiff, Nat.le_refl, Bool.not_true, Bool.not_false, Bool.true_and, Bool.false_and, Bool.and_false, Int.reduceBNe, Int.reduceBEq, Int.reduceLT, Int.reduceLE, decide_true, decide_false, bin_add, v5]
  refine at_ev fun K4 e4 => ?_
  refine lit fun K5 vl e5 hl cl => ?_
  have E5 := e3.trans (e4.trans e5)
  simp only [sounderlaw10_PersistIs_g28]
  refine at_ev fun K6 e6 => ?_
  try simp only [bnd_some, brV_t, brV_f, brG_t, brG_f, newE_u, pickE_t, pickE_f, nilV_p, faV_p, cells_int, cells_bool, cells_ptr, cells_slice, cells_func, cells_agg, bin_eql, bin_neq, bin_lss, bin_leq, bin_gtr, bin_geq, bin_eqlb, bin_neqb, bin_eqlp, bin_eqlp0, bin_neqp, bin_neqp0, bin_eqls, bin_eqls0, un_not, un_neg, len_s, cap_s, ex_t, cv_i, callV_f, Option.bind_some, Option.map_some, Nat.zero_add, Nat.add_zero, Nat.reduceAdd, Nat.reduceMul, size_newB, size_setB, blk_newB_self, own_newB_self, setB_setB, List.getElem?_toArray, List.getElem?_cons_zero, List.getElem?_cons_succ, List.length_cons, List.length_nil, List.all_cons, List.all_nil, isCell_int, isCell_bool, isCell_ptr, isCell_slice, isCell_func, Bool.and_true, Bool.and_self, and_self, if_true, List.size_toArray, and_true, true_and, Nat.reduceLeDiff, Nat.le_refl, Bool.not_true, Bool.not_false, Bool.true_and, Bool.false_and, Bool.and_false, Int.reduceBNe, Int.reduceBEq, Int.reduceLT, Int.reduceLE, decide_true, decide_false, bin_add, v6]
  refine at_ev fun K7 e7 => ?_
  refine lit fun K8 vk e8 hk ck => ?_
  have E8 := e6.trans (e7.trans e8)
  simp only [sounderlaw10_PersistIs_g29]
  refine at_ev fun K9 e9 => ?_
  try simp only [bnd_some, brV_t, brV_f, brG_t, brG_f, newE_u, pickE_t, pickE_f, nilV_p, faV_p, cells_int, cells_bool, cells_ptr, cells_slice, cells_func, cells_agg, bin_eql, bin_neq, bin_lss, bin_leq, bin_gtr, bin_geq, bin_eqlb, bin_neqb, bin_eqlp, bin_eqlp0, bin_neqp, bin_neqp0, bin_eqls, bin_eqls0, un_not, un_neg, len_s, cap_s, ex_t, cv_i, callV_f, Option.bind_some, Option.map_some, Nat.zero_add, Nat.add_zero, Nat.reduceAdd, Nat.reduceMul, size_newB, size_setB, blk_newB_self, own_newB_self, setB_setB, List.getElem?_toArray, List.getElem?_cons_zero, List.getElem?_cons_succ, List.length_cons, List.length_nil, List.all_cons, List.all_nil, isCell_int, isCell_bool, isCell_ptr, isCell_slice, isCell_func, Bool.and_true, Bool.and_self, and_self, if_true, List.size_toArray, and_true, true_and, Nat.reduceLeDiff, Nat.le_refl, Bool.not_true, Bool.not_false, Bool.true_and, Bool.false_and, Bool.and_false, Int.reduceBNe, Int.reduceBEq, Int.reduceLT, Int.reduceLE, decide_true, decide_false, bin_add, v7]
  refine at_ev fun K10 e10 => ?_
  refine lit fun K11 vm e11 hm cm => ?_
  have E11 := e9.trans (e10.trans e11)
  have hl' := hl.ext (E8.trans E11)
  have hk' := hk.ext E11
  have E2 := E5.trans (E8.trans E11)
  have q11 := E2.own q2 (by simp)
  have ack : ∀ K, AckV K (.pointer none) [] := fun K => .inl ⟨rfl, rfl⟩
  have hf : r.first = 7 := by rw [hr]
  have L : ∀ {x : Int}, 0 ≤ x → x ≤ 4503599627370496 → isLong [] [atP 1 8, atP 2 (8 + x)] r dl = decide (wt < x) := fun a b => by
    unfold isLong; rw [hf, two_period a b, hrok, hwait]; rfl
  simp only [sounderlaw10_PersistIs_g30]
  try simp only [bnd_some, brV_t, brV_f, brG_t, brG_f, newE_u, pickE_t, pickE_f, nilV_p, faV_p, cells_int, cells_bool, cells_ptr, cells_slice, cells_func, cells_agg, bin_eql, bin_neq, bin_lss, bin_leq, bin_gtr, bin_geq, bin_eqlb, bin_neqb, bin_eqlp, bin_eqlp0, bin_neqp, bin_neqp0, bin_eqls, bin_eqls0, un_not, un_neg, len_s, cap_s, ex_t, cv_i, callV_f, Option.bind_some, Option.map_some, Nat.zero_add, Nat.add_zero, Nat.reduceAdd, Nat.reduceMul, size_newB, size_setB, blk_newB_self, own_newB_self, setB_setB, List.getElem?_toArray, List.getElem?_cons_zero, List.getElem?_cons_succ, List.length_cons, List.length_nil, List.all_cons, List.all_nil, isCell_int, isCell_bool, isCell_ptr, isCell_slice, isCell_func, Bool.and_true, Bool.and_self, and_self, if_true, List.size_toArray, and_true, true_and, Nat.reduceLeDiff, Nat.le_refl, Bool.not_true, Bool.not_false, Bool.true_and, Bool.false_and, Bool.and_false, Int.reduceBNe, Int.reduceBEq, Int.reduceLT, Int.reduceLE, decide_true, decide_false, ldE_t, rdA_u, own_blk q11, rttC_g]
  refine Is_ev hl' cl (ack _) hrin fun K12 e12 => ?_
  rw [L (by omega) (by omega)]
  have q12 := e12.own q11 (by simp)
  try simp only [bnd_some, brV_t, brV_f, brG_t, brG_f, newE_u, pickE_t, pickE_f, nilV_p, faV_p, cells_int, cells_bool, cells_ptr, cells_slice, cells_func, cells_agg, bin_eql, bin_neq, bin_lss, bin_leq, bin_gtr, bin_geq, bin_eqlb, bin_neqb, bin_eqlp, bin_eqlp0, bin_neqp, bin_neqp0, bin_eqls, bin_eqls0, un_not, un_neg, len_s, cap_s, ex_t, cv_i, callV_f, Option.bind_some, Option.map_some, Nat.zero_add, Nat.add_zero, Nat.reduceAdd, Nat.reduceMul, size_newB, size_setB, blk_newB_self, own_newB_self, setB_setB, List.getElem?_toArray, List.getElem?_cons_zero, List.getElem?_cons_succ, List.length_cons, List.length_nil, List.all_cons, List.all_nil, isCell_int, isCell_bool, isCell_ptr, isCell_slice, isCell_func, Bool.and_true, Bool.and_self, and_self, if_true, List.size_toArray, and_true, true_and, Nat.reduceLeDiff, Nat.le_refl, Bool.not_true, Bool.not_false, Bool.true_and, Bool.false_and, Bool.and_false, Int.reduceBNe, Int.reduceBEq, Int.reduceLT, Int.reduceLE, decide_true, decide_false, beq_self_eq_true, ldE_t, rdA_u, own_blk q12, rttC_g]
  refine Is_ev (hk'.ext e12) ck (ack _) hrin fun K13 e13 => ?_
  rw [L (by omega) (by omega), show decide (wt < wt) = false by simp]
  have q13 := e13.own q12 (by simp)
  try simp only [bnd_some, brV_t, brV_f, brG_t, brG_f, newE_u, pickE_t, pickE_f, nilV_p, faV_p, cells_int, cells_bool, cells_ptr, cells_slice, cells_func, cells_agg, bin_eql, bin_neq, bin_lss, bin_leq, bin_gtr, bin_geq, bin_eqlb, bin_neqb, bin_eqlp, bin_eqlp0, bin_neqp, bin_neqp0, bin_eqls, bin_eqls0, un_not, un_neg, len_s, cap_s, ex_t, cv_i, callV_f, Option.bind_some, Option.map_some, Nat.zero_add, Nat.add_zero, Nat.reduceAdd, Nat.reduceMul, size_newB, size_setB, blk_newB_self, own_newB_self, setB_setB, List.getElem?_toArray, List.getElem?_cons_zero, List.getElem?_cons_succ, List.length_cons, List.length_nil, List.all_cons, List.all_nil, isCell_int, isCell_bool, isCell_ptr, isCell_slice, isCell_func, Bool.and_true, Bool.and_self, and_self, if_true, List.size_toArray, and_true, true_and, Nat.reduceLeDiff, Nat.le_refl, Bool.not_true, Bool.not_false, Bool.true_and, Bool.false_and, Bool.and_false, Int.reduceBNe, Int.reduceBEq, Int.reduceLT, Int.reduceLE, decide_true, decide_false, Bool.not_false, ldE_t, rdA_u, own_blk q13, rttC_g]
  refine Is_ev (hm.ext (e12.trans e13)) cm (ack _) hrin fun K14 e14 => ?_
  rw [L (by omega) (by omega), show decide (wt < 1 + wt) = true by simp; omega]
  have E14 := e12.trans (e13.trans e14)
  have q14 := e14.own q13 (by simp)
  obtain ⟨v', hs1, hv', hc'⟩ := (hm.ext E14).drop cm (by decide) (show 1 ≤ _ by simp) (k := .i64) (rfl : (1 : Int) = ((1 : Nat) : Int))
  have hs1' : sliceV 6 vm (some (.int .i64 1)) none = some v' := hs1
  try simp only [bnd_some, brV_t, brV_f, brG_t, brG_f, newE_u, pickE_t, pickE_f, nilV_p, faV_p, cells_int, cells_bool, cells_ptr, cells_slice, cells_func, cells_agg, bin_eql, bin_neq, bin_lss, bin_leq, bin_gtr, bin_geq, bin_eqlb, bin_neqb, bin_eqlp, bin_eqlp0, bin_neqp, bin_neqp0, bin_eqls, bin_eqls0, un_not, un_neg, len_s, cap_s, ex_t, cv_i, callV_f, Option.bind_some, Option.map_some, Nat.zero_add, Nat.add_zero, Nat.reduceAdd, Nat.reduceMul, size_newB, size_setB, blk_newB_self, own_newB_self, setB_setB, List.getElem?_toArray, List.getElem?_cons_zero, List.getElem?_cons_succ, List.length_cons, List.length_nil, List.all_cons, List.all_nil, isCell_int, isCell_bool, isCell_ptr, isCell_slice, isCell_func, Bool.and_true, Bool.and_self, and_self, if_true, List.size_toArray, and_true, true_and, Nat.reduceLeDiff, Nat.le_refl, Bool.not_true, Bool.not_false, Bool.true_and, Bool.false_and, Bool.and_false, Int.reduceBNe, Int.reduceBEq, Int.reduceLT, Int.reduceLE, decide_true, decide_false, hs1', ldE_t, rdA_u, own_blk q14, rttC_g]
  refine Is_ev hv' hc' (ack _) hrin fun K15 e15 => ?_
  rw [show isLong [] (List.drop 1 [atP 1 8, atP 2 (8 + (1 + wt))]) r dl = false by unfold isLong; rw [show List.drop 1 [atP 1 8, atP 2 (8 + (1 + wt))] = [atP 2 (8 + (1 + wt))] from rfl, one_period]; rfl]
  try simp only [bnd_some, brV_t, brV_f, brG_t, brG_f, newE_u, pickE_t, pickE_f, nilV_p, faV_p, cells_int, cells_bool, cells_ptr, cells_slice, cells_func, cells_agg, bin_eql, bin_neq, bin_lss, bin_leq, bin_gtr, bin_geq, bin_eqlb, bin_neqb, bin_eqlp, bin_eqlp0, bin_neqp, bin_neqp0, bin_eqls, bin_eqls0, un_not, un_neg, len_s, cap_s, ex_t, cv_i, callV_f, Option.bind_some, Option.map_some, Nat.zero_add, Nat.add_zero, Nat.reduceAdd, Nat.reduceMul, size_newB, size_setB, blk_newB_self, own_newB_self, setB_setB, List.getElem?_toArray, List.getElem?_cons_zero, List.getElem?_cons_succ, List.length_cons, List.length_nil, List.all_cons, List.all_nil, isCell_int, isCell_bool, isCell_ptr, isCell_slice, isCell_func, Bool.and_true, Bool.and_self, and_self, if_true, List.size_toArray, and_true, true_and, Nat.reduceLeDiff, Nat.le_refl, Bool.not_true, Bool.not_false, Bool.true_and, Bool.false_and, Bool.and_false, Int.reduceBNe, Int.reduceBEq, Int.reduceLT, Int.reduceLE, decide_true, decide_false]
  refine works10_ev fun K16 e16 => ?_
  exact hR K16 (e1.trans (e2.trans (E2.trans (E14.trans (e15.trans e16)))))
theorem SIs_row {H : Heap} {d smooth : Int} {y : Fin 2 → Int} {R : Value → Heap → Prop} (hd : In64 d) (hs : In64 smooth) (hy : ∀ i, In64 (y i))
    (hR : ∀ H', Ext [] H H' → R (.bool true) H') : EvL P N.sounderlaw10_PersistIs #[iv d, iv smooth, .agg ((intsE 2).c y)] H R := by
  rw [ints2]; exact SIs_ev hd hs (hy 0) (hy 1) hR
end Go.Hc

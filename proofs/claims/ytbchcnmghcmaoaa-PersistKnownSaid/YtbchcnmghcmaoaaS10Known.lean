/- PersistKnown: the statement. -/
import Derived.Test.YtbchcnmghcmaoaaS10U
set_option linter.unusedSimpArgs false
set_option linter.unusedVariables false
namespace Go.Hc
open Go

/-- a field of a list's element is written -/
theorem OwnL.put {A : Type} {E : Enc A} {H : Heap} {v x : Value} {T : List Nat} {l : List A} (h : OwnL E H v T l) {i o : Nat} {a' : A} (hi : i < l.length) (ho : o + 1 ≤ E.sz) (hx : x.cells = #[x]) (hxc : isCell x = true) (ha : E.c a' = splice (E.c l[i]) o [x]) :
    ∃ b oo H', ixSV E.sz v (.int .i64 (i : Int)) = some (.pointer (some ⟨b, oo, none⟩)) ∧ stE 1 (.pointer (some ⟨b, oo + o, none⟩)) x H = some H' ∧ Ext T H H' ∧ OwnL E H' v T (l.set i a') := by
  cases h with
  | nil => simp at hi
  | @mk b cap c f _ hob hr hc hl hm =>
    have hsz := hr.size
    have hrow := row_lt (sz := E.sz) (show i < cap by omega)
    have hst : stE 1 (.pointer (some ⟨b, i * E.sz + o, none⟩)) x H = some (setB H b (splice c (i * E.sz + o) [x])) := by
      rw [stE_p, hx, if_pos (show (#[x] : Array Value).size = 1 from rfl), wrA_b, hob]
      have : i * E.sz + o + 1 ≤ c.size := by rw [hsz]; omega
      simp [this, hxc]
    refine ⟨b, i * E.sz, _, ?_, hst, (Ext.refl _ _).setB _ _ (Or.inl (by simp)), ?_⟩
    · rw [ixS_u (by omega)]; simp
    · have hlen : (l.set i a').length = l.length := by simp
      rw [← hlen]
      refine .mk (own_setB_same hob) (hr.setC (l := [x]) (show i < cap by omega) (by simpa using ho)) (by rw [hlen]; exact hc) (fun j hj => ?_) (by rw [hlen]; exact hm)
      rw [hlen] at hj
      rw [List.getElem_set]
      by_cases hji : j = i
      · subst hji; rw [if_pos rfl, if_pos rfl, ha, hl]
      · rw [if_neg hji, if_neg (fun e => hji e.symm), hl]
theorem four_own {H : Heap} {R : Value → Heap → Prop} (hR : ∀ H' v b, Ext [] H H' → H.size ≤ b → OwnL pktE H' v [b] fourP → R v H') : EvF P N.sounderlaw10_four #[] H R := by
  refine z15_ev _ _ ?_
  simp only [z15_g5, z15_g6, sounderlaw10_four]
  refine at_ev fun K1 e1 => at_ev fun K2 e2 => at_ev fun K3 e3 => at_ev fun K4 e4 => ?_
  refine bslE_l (E := pktE) (vs := [_, _, _, _]) (l := fourP) rfl rfl (fun i hi => ?_) (by decide) (by decide) fun K5 _ e5 o5 => ?_
  · match i, hi with
    | 0, _ => rfl
    | 1, _ => rfl
    | 2, _ => rfl
    | 3, _ => rfl
  exact hR K5 _ _ (e1.trans (e2.trans (e3.trans (e4.trans e5)))) (e1.trans (e2.trans (e3.trans e4))).size o5
def endsL : List Int := [-9223372036854775808, -1, 0, 1, 10, 9007199254740991, 9007199254740992, 9223372036854775807]
theorem endsL_in : ∀ x ∈ endsL, In64 x := by unfold endsL In64; decide
theorem endsD {j : Nat} (h : j < endsL.length) : endsL.getD j 0 = endsL[j] := by simp [List.getD, h]
theorem SKnown_ev {H : Heap} {R : Value → Heap → Prop} (hR : ∀ H', Ext [] H H' → R (.bool true) H') : EvL P N.sounderlaw10_PersistKnown #[] H R := by
  refine z5_ev0 _ _ ?_
  have hsz : (#[.int .i64 0, .int .i64 0, .int .i64 0, .int .i64 0, .int .i64 0] : Array Value).size = 5 := rfl
  have hbr : ∀ x y : Int, buildV #[(.int .i64 0), (.int .i64 0)] (places [(0, 1), (1, 1)]) [(0, iv x), (1, iv y)] = some (.agg (rngC (x, y))) := fun _ _ => rfl
  have hbt : ∀ x y z : Int, buildV #[(.int .i64 0), (.int .i64 0), (.int .i64 0)] (every 1) [(0, iv x), (1, iv y), (2, iv z)] = some (triV (x, y, z)) := fun _ _ _ => rfl
  have ack : ∀ K, AckV K (.pointer none) [] := fun K => .inl ⟨rfl, rfl⟩
  simp only [sounderlaw10_PersistKnown, z5_g55, z5_g56]
  refine bslE_l (E := intE) (vs := [_, _, _, _, _, _, _, _]) (l := endsL) rfl rfl (fun i hi => ?_) (by decide) (by decide) fun K1 _ e1 o1 => ?_
  · match i, hi with
    | 0, _ => rfl
    | 1, _ => rfl
    | 2, _ => rfl
    | 3, _ => rfl
    | 4, _ => rfl
    | 5, _ => rfl
    | 6, _ => rfl
    | 7, _ => rfl
  have hends := o1.showA
  generalize (Value.slice (some ⟨H.size, 0, none⟩) 8 8) = ve at hends ⊢
  have hlen8 : endsL.length = 8 := rfl
  have ld : ∀ {K : Heap} {j : Nat} (hj : j < 8), Ext [] K1 K → ∃ b o c, ixSV 1 ve (iv j) = some (.pointer (some ⟨b, o, none⟩)) ∧ blk K b = some c ∧ c[o]? = some (iv (endsL.getD j 0)) := fun {K j} hj e => by
    obtain ⟨b, o, c, i1, i2, i3, _⟩ := (hends.ext e).ix (by decide) (show j < endsL.length by rw [hlen8]; exact hj) (rfl : (j : Int) = j)
    exact ⟨b, o, c, i1, i2, by rw [endsD (by rw [hlen8]; exact hj)]; exact i3 0 (by decide)⟩
  have len8 : ∀ {K : Heap}, Ext [] K1 K → lenV ve = some (.int .i64 8) := fun e => (hends.ext e).len
  simp only [z5_g57]
  simp only [z5_l86]
  refine ⟨fun x K => ∃ i : Nat, x = iv i ∧ i ≤ 8 ∧ Ext [] K1 K, fun x _ => (match x with | .int _ k => (8 - k).toNat | _ => 0), ⟨0, rfl, by omega, Ext.refl _ _⟩, ?_⟩
  rintro x K ⟨i, rfl, hi, hE⟩
  simp only [z5_s58, z5_g59]
  try simp only [bnd_some, brV_t, brV_f, brG_t, brG_f, newE_u, pickE_t, pickE_f, nilV_p, faV_p, cells_int, cells_bool, cells_ptr, cells_slice, cells_func, cells_agg, bin_eql, bin_neq, bin_lss, bin_leq, bin_gtr, bin_geq, bin_eqlb, bin_neqb, bin_eqlp, bin_eqlp0, bin_neqp, bin_neqp0, bin_eqls, bin_eqls0, un_not, un_neg, len_s, cap_s, ex_t, cv_i, callV_f, Option.bind_some, Option.map_some, Nat.zero_add, Nat.add_zero, Nat.reduceAdd, Nat.reduceMul, size_newB, size_setB, blk_newB_self, own_newB_self, setB_setB, List.getElem?_toArray, List.getElem?_cons_zero, List.getElem?_cons_succ, List.length_cons, List.length_nil, List.all_cons, List.all_nil, isCell_int, isCell_bool, isCell_ptr, isCell_slice, isCell_func, Bool.and_true, Bool.and_self, and_self, if_true, List.size_toArray, and_true, true_and, Nat.reduceLeDiff, Nat.le_refl, Bool.not_true, Bool.not_false, Bool.true_and, Bool.false_and, Bool.and_false, Int.reduceBNe, Int.reduceBEq, Int.reduceLT, Int.reduceLE, decide_true, decide_false, len8 hE]
  refine brV_d (fun hlt => ?_) (fun hge => ?_)
  · have hi' : i < 8 := by omega
    obtain ⟨b, o, c, i1, i2, i3⟩ := ld hi' hE
    obtain ⟨ei, hei⟩ : ∃ x, x = endsL.getD i 0 := ⟨_, rfl⟩
    have hin : In64 ei := by rw [hei, endsD (by rw [hlen8]; exact hi')]; exact endsL_in _ (List.getElem_mem _)
    rw [← hei] at i3
    obtain ⟨r, hr⟩ : ∃ r : Rtt, r = ⟨9, 9, 10, 0, ei⟩ := ⟨_, rfl⟩
    have hbR : buildV #[(.int .i64 0), (.int .i64 0), (.int .i64 0), (.int .i64 0), (.int .i64 0)] (places [(0, 1), (1, 1), (2, 1), (3, 1), (4, 1)]) [(0, (.int .i64 9)), (1, (.int .i64 9)), (2, (.int .i64 10)), (4, iv ei)] = some (rtv r) := by rw [hr]; rfl
    have hrin : In64r r := by rw [hr]; exact ⟨(show In64 9 from ⟨by decide, by decide⟩), (show In64 9 from ⟨by decide, by decide⟩), (show In64 10 from ⟨by decide, by decide⟩), (show In64 0 from ⟨by decide, by decide⟩), hin⟩
    have wi : IntKind.i64.wrap ((i : Int) + 1) = ((i + 1 : Nat) : Int) := by rw [wrap_in (by omega)]; omega
    simp only [z5_g60]
    try simp only [bnd_some, brV_t, brV_f, brG_t, brG_f, newE_u, pickE_t, pickE_f, nilV_p, faV_p, cells_int, cells_bool, cells_ptr, cells_slice, cells_func, cells_agg, bin_eql, bin_neq, bin_lss, bin_leq, bin_gtr, bin_geq, bin_eqlb, bin_neqb, bin_eqlp, bin_eqlp0, bin_neqp, bin_neqp0, bin_eqls, bin_eqls0, un_not, un_neg, len_s, cap_s, ex_t, cv_i, callV_f, Option.bind_some, Option.map_some, Nat.zero_add, Nat.add_zero, Nat.reduceAdd, Nat.reduceMul, size_newB, size_setB, blk_newB_self, own_newB_self, setB_setB, List.getElem?_toArray, List.getElem?_cons_zero, List.getElem?_cons_succ, List.length_cons, List.length_nil, List.all_cons, List.all_nil, isCell_int, isCell_bool, isCell_ptr, isCell_slice, isCell_func, Bool.and_true, Bool.and_self, and_self, if_true, List.size_toArray, and_true, true_and, Nat.reduceLeDiff, Nat.le_refl, Bool.not_true, Bool.not_false, Bool.true_and, Bool.false_and, Bool.and_false, Int.reduceBNe, Int.reduceBEq, Int.reduceLT, Int.reduceLE, decide_true, decide_false, i1, ldE_f, i2, i3, Option.bind_some, hbR, st_rtt hsz]
    generalize hK2 : setB (newB K _ _) _ _ = K2
    have e2 : Ext [] K K2 := by rw [← hK2]; exact box_new.1
    have q2 : own K2 K.size = some (rttC r) := by rw [← hK2]; exact box_new.2.1
    have hE2 := hE.trans e2
    simp only [z5_g61]
    simp only [z5_l81]
    refine ⟨fun x K' => ∃ k : Nat, x = iv k ∧ k ≤ 8 ∧ Ext [] K2 K', fun x _ => (match x with | .int _ k => (8 - k).toNat | _ => 0), ⟨0, rfl, by omega, Ext.refl _ _⟩, ?_⟩
    rintro x K3 ⟨k, rfl, hk, hE3⟩
    have F3 := hE2.trans hE3
    simp only [z5_s62, z5_g63]
    try simp only [bnd_some, brV_t, brV_f, brG_t, brG_f, newE_u, pickE_t, pickE_f, nilV_p, faV_p, cells_int, cells_bool, cells_ptr, cells_slice, cells_func, cells_agg, bin_eql, bin_neq, bin_lss, bin_leq, bin_gtr, bin_geq, bin_eqlb, bin_neqb, bin_eqlp, bin_eqlp0, bin_neqp, bin_neqp0, bin_eqls, bin_eqls0, un_not, un_neg, len_s, cap_s, ex_t, cv_i, callV_f, Option.bind_some, Option.map_some, Nat.zero_add, Nat.add_zero, Nat.reduceAdd, Nat.reduceMul, size_newB, size_setB, blk_newB_self, own_newB_self, setB_setB, List.getElem?_toArray, List.getElem?_cons_zero, List.getElem?_cons_succ, List.length_cons, List.length_nil, List.all_cons, List.all_nil, isCell_int, isCell_bool, isCell_ptr, isCell_slice, isCell_func, Bool.and_true, Bool.and_self, and_self, if_true, List.size_toArray, and_true, true_and, Nat.reduceLeDiff, Nat.le_refl, Bool.not_true, Bool.not_false, Bool.true_and, Bool.false_and, Bool.and_false, Int.reduceBNe, Int.reduceBEq, Int.reduceLT, Int.reduceLE, decide_true, decide_false, len8 F3]
    refine brV_d (fun hlt2 => ?_) (fun hge2 => ?_)
    · have hk' : k < 8 := by omega
      have wk : IntKind.i64.wrap ((k : Int) + 1) = ((k + 1 : Nat) : Int) := by rw [wrap_in (by omega)]; omega
      obtain ⟨ek, hek⟩ : ∃ x, x = endsL.getD k 0 := ⟨_, rfl⟩
      have ldk : ∀ {K : Heap}, Ext [] K1 K → ∃ b o c, ixSV 1 ve (iv k) = some (.pointer (some ⟨b, o, none⟩)) ∧ blk K b = some c ∧ c[o]? = some (iv ek) := fun e => by rw [hek]; exact ld hk' e
      simp only [z5_g64]
      refine four_own fun K4 v5 b5 e4 hb5 o5 => ?_
      have F4 := F3.trans e4
      obtain ⟨_, _, _, j1, j2, j3⟩ := ldk F4
      obtain ⟨_, _, K5, p1, p2, e5, o5'⟩ := o5.put (i := 3) (o := 1) (a' := { atP 8 200 with time := ek }) (x := iv ek) (by decide) (by decide) rfl rfl rfl
      have p1' : ixSV 6 v5 (.int .i64 3) = _ := p1
      simp only [z5_g65]
      try simp only [bnd_some, brV_t, brV_f, brG_t, brG_f, newE_u, pickE_t, pickE_f, nilV_p, faV_p, cells_int, cells_bool, cells_ptr, cells_slice, cells_func, cells_agg, bin_eql, bin_neq, bin_lss, bin_leq, bin_gtr, bin_geq, bin_eqlb, bin_neqb, bin_eqlp, bin_eqlp0, bin_neqp, bin_neqp0, bin_eqls, bin_eqls0, un_not, un_neg, len_s, cap_s, ex_t, cv_i, callV_f, Option.bind_some, Option.map_some, Nat.zero_add, Nat.add_zero, Nat.reduceAdd, Nat.reduceMul, size_newB, size_setB, blk_newB_self, own_newB_self, setB_setB, List.getElem?_toArray, List.getElem?_cons_zero, List.getElem?_cons_succ, List.length_cons, List.length_nil, List.all_cons, List.all_nil, isCell_int, isCell_bool, isCell_ptr, isCell_slice, isCell_func, Bool.and_true, Bool.and_self, and_self, if_true, List.size_toArray, and_true, true_and, Nat.reduceLeDiff, Nat.le_refl, Bool.not_true, Bool.not_false, Bool.true_and, Bool.false_and, Bool.and_false, Int.reduceBNe, Int.reduceBEq, Int.reduceLT, Int.reduceLE, decide_true, decide_false, j1, ldE_f, j2, j3, Option.bind_some, p1', p2]
      have e35 : Ext [] K3 K5 := e4.thru e5 (by simp; omega)
      simp only [z5_g66]
      refine four_own fun K6 v6 b6 e6 hb6 o6 => ?_
      have e36 := e35.trans e6
      have F6 := F3.trans e36
      have o56 := o5'.ext e6 (by simp)
      obtain ⟨_, _, _, j1, j2, j3⟩ := ldk F6
      obtain ⟨_, _, K7, p1, p2, e7, o6'⟩ := o6.put (i := 3) (o := 0) (a' := { atP 8 200 with num := ek }) (x := iv ek) (by decide) (by decide) rfl rfl rfl
      have p1' : ixSV 6 v6 (.int .i64 3) = _ := p1
      simp only [Nat.add_zero] at p2
      simp only [z5_g67]
      try simp only [bnd_some, brV_t, brV_f, brG_t, brG_f, newE_u, pickE_t, pickE_f, nilV_p, faV_p, cells_int, cells_bool, cells_ptr, cells_slice, cells_func, cells_agg, bin_eql, bin_neq, bin_lss, bin_leq, bin_gtr, bin_geq, bin_eqlb, bin_neqb, bin_eqlp, bin_eqlp0, bin_neqp, bin_neqp0, bin_eqls, bin_eqls0, un_not, un_neg, len_s, cap_s, ex_t, cv_i, callV_f, Option.bind_some, Option.map_some, Nat.zero_add, Nat.add_zero, Nat.reduceAdd, Nat.reduceMul, size_newB, size_setB, blk_newB_self, own_newB_self, setB_setB, List.getElem?_toArray, List.getElem?_cons_zero, List.getElem?_cons_succ, List.length_cons, List.length_nil, List.all_cons, List.all_nil, isCell_int, isCell_bool, isCell_ptr, isCell_slice, isCell_func, Bool.and_true, Bool.and_self, and_self, if_true, List.size_toArray, and_true, true_and, Nat.reduceLeDiff, Nat.le_refl, Bool.not_true, Bool.not_false, Bool.true_and, Bool.false_and, Bool.and_false, Int.reduceBNe, Int.reduceBEq, Int.reduceLT, Int.reduceLE, decide_true, decide_false, j1, ldE_f, j2, j3, Option.bind_some, p1', p2]
      have hb56 : b5 ≠ b6 := by
        have := o5'.lt b5 (by simp); have := e5.size; omega
      have o57 := o56.ext e7 (by simp; exact hb56)
      have e37 : Ext [] K3 K7 := e36.thru e7 (by have := e35.size; simp; omega)
      have F7 := F3.trans e37
      obtain ⟨_, _, _, j1, j2, j3⟩ := ld hi' F7
      rw [← hei] at j3
      obtain ⟨_, _, K8, p1, p2, e8, o6''⟩ := o6'.put (i := 0) (o := 1) (a' := { atP 1 10 with time := max 0 (min 9007199254740991 ei) }) (x := iv (max 0 (min 9007199254740991 ei))) (by simp [fourP]) (by decide) rfl rfl rfl
      have p1' : ixSV 6 v6 (.int .i64 0) = _ := p1
      simp only [z5_g68]
      try simp only [bnd_some, brV_t, brV_f, brG_t, brG_f, newE_u, pickE_t, pickE_f, nilV_p, faV_p, cells_int, cells_bool, cells_ptr, cells_slice, cells_func, cells_agg, bin_eql, bin_neq, bin_lss, bin_leq, bin_gtr, bin_geq, bin_eqlb, bin_neqb, bin_eqlp, bin_eqlp0, bin_neqp, bin_neqp0, bin_eqls, bin_eqls0, un_not, un_neg, len_s, cap_s, ex_t, cv_i, callV_f, Option.bind_some, Option.map_some, Nat.zero_add, Nat.add_zero, Nat.reduceAdd, Nat.reduceMul, size_newB, size_setB, blk_newB_self, own_newB_self, setB_setB, List.getElem?_toArray, List.getElem?_cons_zero, List.getElem?_cons_succ, List.length_cons, List.length_nil, List.all_cons, List.all_nil, isCell_int, isCell_bool, isCell_ptr, isCell_slice, isCell_func, Bool.and_true, Bool.and_self, and_self, if_true, List.size_toArray, and_true, true_and, Nat.reduceLeDiff, Nat.le_refl, Bool.not_true, Bool.not_false, Bool.true_and, Bool.false_and, Bool.and_false, Int.reduceBNe, Int.reduceBEq, Int.reduceLT, Int.reduceLE, decide_true, decide_false, j1, ldE_f, j2, j3, Option.bind_some, min_iv, max_iv, p1', p2]
      have o58 := o57.ext e8 (by simp; exact hb56)
      have e38 : Ext [] K3 K8 := e37.thru e8 (by have := e35.size; simp; omega)
      have q8 := (hE3.trans e38).own q2 (by simp)
      simp only [z5_g69]
      try simp only [bnd_some, brV_t, brV_f, brG_t, brG_f, newE_u, pickE_t, pickE_f, nilV_p, faV_p, cells_int, cells_bool, cells_ptr, cells_slice, cells_func, cells_agg, bin_eql, bin_neq, bin_lss, bin_leq, bin_gtr, bin_geq, bin_eqlb, bin_neqb, bin_eqlp, bin_eqlp0, bin_neqp, bin_neqp0, bin_eqls, bin_eqls0, un_not, un_neg, len_s, cap_s, ex_t, cv_i, callV_f, Option.bind_some, Option.map_some, Nat.zero_add, Nat.add_zero, Nat.reduceAdd, Nat.reduceMul, size_newB, size_setB, blk_newB_self, own_newB_self, setB_setB, List.getElem?_toArray, List.getElem?_cons_zero, List.getElem?_cons_succ, List.length_cons, List.length_nil, List.all_cons, List.all_nil, isCell_int, isCell_bool, isCell_ptr, isCell_slice, isCell_func, Bool.and_true, Bool.and_self, and_self, if_true, List.size_toArray, and_true, true_and, Nat.reduceLeDiff, Nat.le_refl, Bool.not_true, Bool.not_false, Bool.true_and, Bool.false_and, Bool.and_false, Int.reduceBNe, Int.reduceBEq, Int.reduceLT, Int.reduceLE, decide_true, decide_false, hbr, ldE_t, rdA_u, own_blk q8, rttC_g]
      refine bslE_1 (E := rngE) (a := (2, 2)) rfl (fun K9 _ e9 o9 => ?_) (by decide)
      have q9 := e9.own q8 (by simp)
      try simp only [bnd_some, brV_t, brV_f, brG_t, brG_f, newE_u, pickE_t, pickE_f, nilV_p, faV_p, cells_int, cells_bool, cells_ptr, cells_slice, cells_func, cells_agg, bin_eql, bin_neq, bin_lss, bin_leq, bin_gtr, bin_geq, bin_eqlb, bin_neqb, bin_eqlp, bin_eqlp0, bin_neqp, bin_neqp0, bin_eqls, bin_eqls0, un_not, un_neg, len_s, cap_s, ex_t, cv_i, callV_f, Option.bind_some, Option.map_some, Nat.zero_add, Nat.add_zero, Nat.reduceAdd, Nat.reduceMul, size_newB, size_setB, blk_newB_self, own_newB_self, setB_setB, List.getElem?_toArray, List.getElem?_cons_zero, List.getElem?_cons_succ, List.length_cons, List.length_nil, List.all_cons, List.all_nil, isCell_int, isCell_bool, isCell_ptr, isCell_slice, isCell_func, Bool.and_true, Bool.and_self, and_self, if_true, List.size_toArray, and_true, true_and, Nat.reduceLeDiff, Nat.le_refl, Bool.not_true, Bool.not_false, Bool.true_and, Bool.false_and, Bool.and_false, Int.reduceBNe, Int.reduceBEq, Int.reduceLT, Int.reduceLE, decide_true, decide_false, ldE_t, rdA_u, own_blk q9, rttC_g]
      refine tells_ev (o58.showA.ext e9) (CutOK.of_own o58) (by simp [fourP]) (by simp [fourP]) o9.showA (by simp) hrin fun K10 e10 => ?_
      have q10 := e10.own q9 (by simp)
      try simp only [bnd_some, brV_t, brV_f, brG_t, brG_f, newE_u, pickE_t, pickE_f, nilV_p, faV_p, cells_int, cells_bool, cells_ptr, cells_slice, cells_func, cells_agg, bin_eql, bin_neq, bin_lss, bin_leq, bin_gtr, bin_geq, bin_eqlb, bin_neqb, bin_eqlp, bin_eqlp0, bin_neqp, bin_neqp0, bin_eqls, bin_eqls0, un_not, un_neg, len_s, cap_s, ex_t, cv_i, callV_f, Option.bind_some, Option.map_some, Nat.zero_add, Nat.add_zero, Nat.reduceAdd, Nat.reduceMul, size_newB, size_setB, blk_newB_self, own_newB_self, setB_setB, List.getElem?_toArray, List.getElem?_cons_zero, List.getElem?_cons_succ, List.length_cons, List.length_nil, List.all_cons, List.all_nil, isCell_int, isCell_bool, isCell_ptr, isCell_slice, isCell_func, Bool.and_true, Bool.and_self, and_self, if_true, List.size_toArray, and_true, true_and, Nat.reduceLeDiff, Nat.le_refl, Bool.not_true, Bool.not_false, Bool.true_and, Bool.false_and, Bool.and_false, Int.reduceBNe, Int.reduceBEq, Int.reduceLT, Int.reduceLE, decide_true, decide_false, ldE_t, rdA_u, own_blk q10, rttC_g]
      have nilA : ∀ K, ShowA rngE K (.slice none 0 0) [] := fun K => ⟨⟨none, 0, rfl, by simp⟩, .inl rfl⟩
      refine tells_ev (o6''.showA.ext (e9.trans e10)) (CutOK.of_own o6'') (by simp [fourP]) (by simp [fourP]) (nilA _) (by simp) hrin fun K11 e11 => ?_
      have q11 := e11.own q10 (by simp)
      have e311 := e38.trans (e9.trans (e10.trans e11))
      have F11 := F3.trans e311
      obtain ⟨b11, o11, c11, j1, j2, j3⟩ := ldk F11
      try simp only [bnd_some, brV_t, brV_f, brG_t, brG_f, newE_u, pickE_t, pickE_f, nilV_p, faV_p, cells_int, cells_bool, cells_ptr, cells_slice, cells_func, cells_agg, bin_eql, bin_neq, bin_lss, bin_leq, bin_gtr, bin_geq, bin_eqlb, bin_neqb, bin_eqlp, bin_eqlp0, bin_neqp, bin_neqp0, bin_eqls, bin_eqls0, un_not, un_neg, len_s, cap_s, ex_t, cv_i, callV_f, Option.bind_some, Option.map_some, Nat.zero_add, Nat.add_zero, Nat.reduceAdd, Nat.reduceMul, size_newB, size_setB, blk_newB_self, own_newB_self, setB_setB, List.getElem?_toArray, List.getElem?_cons_zero, List.getElem?_cons_succ, List.length_cons, List.length_nil, List.all_cons, List.all_nil, isCell_int, isCell_bool, isCell_ptr, isCell_slice, isCell_func, Bool.and_true, Bool.and_self, and_self, if_true, List.size_toArray, and_true, true_and, Nat.reduceLeDiff, Nat.le_refl, Bool.not_true, Bool.not_false, Bool.true_and, Bool.false_and, Bool.and_false, Int.reduceBNe, Int.reduceBEq, Int.reduceLT, Int.reduceLE, decide_true, decide_false, ldE_f, ldE_t, rdA_u, own_blk q11, rttC_g, j1, j2, j3, Option.bind_some, hbr]
      refine ⟨?_, ?_⟩
      · refine four_own fun K12 v12 b12 e12 _ o12 => ?_
        have q12 := e12.own q11 (by simp)
        have j2 := e12.blk j2 (by simp)
        try simp only [bnd_some, brV_t, brV_f, brG_t, brG_f, newE_u, pickE_t, pickE_f, nilV_p, faV_p, cells_int, cells_bool, cells_ptr, cells_slice, cells_func, cells_agg, bin_eql, bin_neq, bin_lss, bin_leq, bin_gtr, bin_geq, bin_eqlb, bin_neqb, bin_eqlp, bin_eqlp0, bin_neqp, bin_neqp0, bin_eqls, bin_eqls0, un_not, un_neg, len_s, cap_s, ex_t, cv_i, callV_f, Option.bind_some, Option.map_some, Nat.zero_add, Nat.add_zero, Nat.reduceAdd, Nat.reduceMul, size_newB, size_setB, blk_newB_self, own_newB_self, setB_setB, List.getElem?_toArray, List.getElem?_cons_zero, List.getElem?_cons_succ, List.length_cons, List.length_nil, List.all_cons, List.all_nil, isCell_int, isCell_bool, isCell_ptr, isCell_slice, isCell_func, Bool.and_true, Bool.and_self, and_self, if_true, List.size_toArray, and_true, true_and, Nat.reduceLeDiff, Nat.le_refl, Bool.not_true, Bool.not_false, Bool.true_and, Bool.false_and, Bool.and_false, Int.reduceBNe, Int.reduceBEq, Int.reduceLT, Int.reduceLE, decide_true, decide_false, ldE_f, ldE_t, rdA_u, own_blk q12, rttC_g, j2, j3, Option.bind_some]
        refine bslE_1 (E := rngE) (a := (ek, ek)) rfl (fun K13 _ e13 o13 => ?_) (by decide)
        have q13 := e13.own q12 (by simp)
        have j2 := e13.blk j2 (by simp)
        try simp only [bnd_some, brV_t, brV_f, brG_t, brG_f, newE_u, pickE_t, pickE_f, nilV_p, faV_p, cells_int, cells_bool, cells_ptr, cells_slice, cells_func, cells_agg, bin_eql, bin_neq, bin_lss, bin_leq, bin_gtr, bin_geq, bin_eqlb, bin_neqb, bin_eqlp, bin_eqlp0, bin_neqp, bin_neqp0, bin_eqls, bin_eqls0, un_not, un_neg, len_s, cap_s, ex_t, cv_i, callV_f, Option.bind_some, Option.map_some, Nat.zero_add, Nat.add_zero, Nat.reduceAdd, Nat.reduceMul, size_newB, size_setB, blk_newB_self, own_newB_self, setB_setB, List.getElem?_toArray, List.getElem?_cons_zero, List.getElem?_cons_succ, List.length_cons, List.length_nil, List.all_cons, List.all_nil, isCell_int, isCell_bool, isCell_ptr, isCell_slice, isCell_func, Bool.and_true, Bool.and_self, and_self, if_true, List.size_toArray, and_true, true_and, Nat.reduceLeDiff, Nat.le_refl, Bool.not_true, Bool.not_false, Bool.true_and, Bool.false_and, Bool.and_false, Int.reduceBNe, Int.reduceBEq, Int.reduceLT, Int.reduceLE, decide_true, decide_false, ldE_f, ldE_t, rdA_u, own_blk q13, rttC_g, j2, j3, Option.bind_some]
        refine tells_ev (o12.showA.ext e13) (CutOK.of_own o12) (by simp [fourP]) (by simp [fourP]) o13.showA (by simp) hrin fun K14 e14 => ?_
        have j2 := e14.blk j2 (by simp)
        try simp only [bnd_some, brV_t, brV_f, brG_t, brG_f, newE_u, pickE_t, pickE_f, nilV_p, faV_p, cells_int, cells_bool, cells_ptr, cells_slice, cells_func, cells_agg, bin_eql, bin_neq, bin_lss, bin_leq, bin_gtr, bin_geq, bin_eqlb, bin_neqb, bin_eqlp, bin_eqlp0, bin_neqp, bin_neqp0, bin_eqls, bin_eqls0, un_not, un_neg, len_s, cap_s, ex_t, cv_i, callV_f, Option.bind_some, Option.map_some, Nat.zero_add, Nat.add_zero, Nat.reduceAdd, Nat.reduceMul, size_newB, size_setB, blk_newB_self, own_newB_self, setB_setB, List.getElem?_toArray, List.getElem?_cons_zero, List.getElem?_cons_succ, List.length_cons, List.length_nil, List.all_cons, List.all_nil, isCell_int, isCell_bool, isCell_ptr, isCell_slice, isCell_func, Bool.and_true, Bool.and_self, and_self, if_true, List.size_toArray, and_true, true_and, Nat.reduceLeDiff, Nat.le_refl, Bool.not_true, Bool.not_false, Bool.true_and, Bool.false_and, Bool.and_false, Int.reduceBNe, Int.reduceBEq, Int.reduceLT, Int.reduceLE, decide_true, decide_false, ldE_f, j2, j3, Option.bind_some]
        simp only [z5_g71]
        try simp only [bnd_some, brV_t, brV_f, brG_t, brG_f, newE_u, pickE_t, pickE_f, nilV_p, faV_p, cells_int, cells_bool, cells_ptr, cells_slice, cells_func, cells_agg, bin_eql, bin_neq, bin_lss, bin_leq, bin_gtr, bin_geq, bin_eqlb, bin_neqb, bin_eqlp, bin_eqlp0, bin_neqp, bin_neqp0, bin_eqls, bin_eqls0, un_not, un_neg, len_s, cap_s, ex_t, cv_i, callV_f, Option.bind_some, Option.map_some, Nat.zero_add, Nat.add_zero, Nat.reduceAdd, Nat.reduceMul, size_newB, size_setB, blk_newB_self, own_newB_self, setB_setB, List.getElem?_toArray, List.getElem?_cons_zero, List.getElem?_cons_succ, List.length_cons, List.length_nil, List.all_cons, List.all_nil, isCell_int, isCell_bool, isCell_ptr, isCell_slice, isCell_func, Bool.and_true, Bool.and_self, and_self, if_true, List.size_toArray, and_true, true_and, Nat.reduceLeDiff, Nat.le_refl, Bool.not_true, Bool.not_false, Bool.true_and, Bool.false_and, Bool.and_false, Int.reduceBNe, Int.reduceBEq, Int.reduceLT, Int.reduceLE, decide_true, decide_false, bin_add, wk]
        exact ⟨⟨k + 1, rfl, by omega, hE3.trans (e311.trans (e12.trans (e13.trans e14)))⟩, by show _ < _; omega⟩
      · refine bslE_1 (E := rngE) (a := (ek, ek)) rfl (fun K12 _ e12 o12 => ?_) (by decide)
        have q12 := e12.own q11 (by simp)
        have j2 := e12.blk j2 (by simp)
        try simp only [bnd_some, brV_t, brV_f, brG_t, brG_f, newE_u, pickE_t, pickE_f, nilV_p, faV_p, cells_int, cells_bool, cells_ptr, cells_slice, cells_func, cells_agg, bin_eql, bin_neq, bin_lss, bin_leq, bin_gtr, bin_geq, bin_eqlb, bin_neqb, bin_eqlp, bin_eqlp0, bin_neqp, bin_neqp0, bin_eqls, bin_eqls0, un_not, un_neg, len_s, cap_s, ex_t, cv_i, callV_f, Option.bind_some, Option.map_some, Nat.zero_add, Nat.add_zero, Nat.reduceAdd, Nat.reduceMul, size_newB, size_setB, blk_newB_self, own_newB_self, setB_setB, List.getElem?_toArray, List.getElem?_cons_zero, List.getElem?_cons_succ, List.length_cons, List.length_nil, List.all_cons, List.all_nil, isCell_int, isCell_bool, isCell_ptr, isCell_slice, isCell_func, Bool.and_true, Bool.and_self, and_self, if_true, List.size_toArray, and_true, true_and, Nat.reduceLeDiff, Nat.le_refl, Bool.not_true, Bool.not_false, Bool.true_and, Bool.false_and, Bool.and_false, Int.reduceBNe, Int.reduceBEq, Int.reduceLT, Int.reduceLE, decide_true, decide_false, ldE_f, ldE_t, rdA_u, own_blk q12, rttC_g, j2, j3, Option.bind_some]
        refine four_own fun K13 v13 b13 e13 _ o13 => ?_
        have q13 := e13.own q12 (by simp)
        have j2 := e13.blk j2 (by simp)
        try simp only [bnd_some, brV_t, brV_f, brG_t, brG_f, newE_u, pickE_t, pickE_f, nilV_p, faV_p, cells_int, cells_bool, cells_ptr, cells_slice, cells_func, cells_agg, bin_eql, bin_neq, bin_lss, bin_leq, bin_gtr, bin_geq, bin_eqlb, bin_neqb, bin_eqlp, bin_eqlp0, bin_neqp, bin_neqp0, bin_eqls, bin_eqls0, un_not, un_neg, len_s, cap_s, ex_t, cv_i, callV_f, Option.bind_some, Option.map_some, Nat.zero_add, Nat.add_zero, Nat.reduceAdd, Nat.reduceMul, size_newB, size_setB, blk_newB_self, own_newB_self, setB_setB, List.getElem?_toArray, List.getElem?_cons_zero, List.getElem?_cons_succ, List.length_cons, List.length_nil, List.all_cons, List.all_nil, isCell_int, isCell_bool, isCell_ptr, isCell_slice, isCell_func, Bool.and_true, Bool.and_self, and_self, if_true, List.size_toArray, and_true, true_and, Nat.reduceLeDiff, Nat.le_refl, Bool.not_true, Bool.not_false, Bool.true_and, Bool.false_and, Bool.and_false, Int.reduceBNe, Int.reduceBEq, Int.reduceLT, Int.reduceLE, decide_true, decide_false, ldE_f, ldE_t, rdA_u, own_blk q13, rttC_g, j2, j3, Option.bind_some]
        refine tells_ev o13.showA (CutOK.of_own o13) (by simp [fourP]) (by simp [fourP]) (o12.showA.ext e13) (by simp) hrin fun K14 e14 => ?_
        have j2 := e14.blk j2 (by simp)
        try simp only [bnd_some, brV_t, brV_f, brG_t, brG_f, newE_u, pickE_t, pickE_f, nilV_p, faV_p, cells_int, cells_bool, cells_ptr, cells_slice, cells_func, cells_agg, bin_eql, bin_neq, bin_lss, bin_leq, bin_gtr, bin_geq, bin_eqlb, bin_neqb, bin_eqlp, bin_eqlp0, bin_neqp, bin_neqp0, bin_eqls, bin_eqls0, un_not, un_neg, len_s, cap_s, ex_t, cv_i, callV_f, Option.bind_some, Option.map_some, Nat.zero_add, Nat.add_zero, Nat.reduceAdd, Nat.reduceMul, size_newB, size_setB, blk_newB_self, own_newB_self, setB_setB, List.getElem?_toArray, List.getElem?_cons_zero, List.getElem?_cons_succ, List.length_cons, List.length_nil, List.all_cons, List.all_nil, isCell_int, isCell_bool, isCell_ptr, isCell_slice, isCell_func, Bool.and_true, Bool.and_self, and_self, if_true, List.size_toArray, and_true, true_and, Nat.reduceLeDiff, Nat.le_refl, Bool.not_true, Bool.not_false, Bool.true_and, Bool.false_and, Bool.and_false, Int.reduceBNe, Int.reduceBEq, Int.reduceLT, Int.reduceLE, decide_true, decide_false, ldE_f, j2, j3, Option.bind_some]
        simp only [z5_g71]
        try simp only [bnd_some, brV_t, brV_f, brG_t, brG_f, newE_u, pickE_t, pickE_f, nilV_p, faV_p, cells_int, cells_bool, cells_ptr, cells_slice, cells_func, cells_agg, bin_eql, bin_neq, bin_lss, bin_leq, bin_gtr, bin_geq, bin_eqlb, bin_neqb, bin_eqlp, bin_eqlp0, bin_neqp, bin_neqp0, bin_eqls, bin_eqls0, un_not, un_neg, len_s, cap_s, ex_t, cv_i, callV_f, Option.bind_some, Option.map_some, Nat.zero_add, Nat.add_zero, Nat.reduceAdd, Nat.reduceMul, size_newB, size_setB, blk_newB_self, own_newB_self, setB_setB, List.getElem?_toArray, List.getElem?_cons_zero, List.getElem?_cons_succ, List.length_cons, List.length_nil, List.all_cons, List.all_nil, isCell_int, isCell_bool, isCell_ptr, isCell_slice, isCell_func, Bool.and_true, Bool.and_self, and_self, if_true, List.size_toArray, and_true, true_and, Nat.reduceLeDiff, Nat.le_refl, Bool.not_true, Bool.not_false, Bool.true_and, Bool.false_and, Bool.and_false, Int.reduceBNe, Int.reduceBEq, Int.reduceLT, Int.reduceLE, decide_true, decide_false, bin_add, wk]
        exact ⟨⟨k + 1, rfl, by omega, hE3.trans (e311.trans (e12.trans (e13.trans e14)))⟩, by show _ < _; omega⟩
    · simp only [z5_g72]
      try simp only [bnd_some, brV_t, brV_f, brG_t, brG_f, newE_u, pickE_t, pickE_f, nilV_p, faV_p, cells_int, cells_bool, cells_ptr, cells_slice, cells_func, cells_agg, bin_eql, bin_neq, bin_lss, bin_leq, bin_gtr, bin_geq, bin_eqlb, bin_neqb, bin_eqlp, bin_eqlp0, bin_neqp, bin_neqp0, bin_eqls, bin_eqls0, un_not, un_neg, len_s, cap_s, ex_t, cv_i, callV_f, Option.bind_some, Option.map_some, Nat.zero_add, Nat.add_zero, Nat.reduceAdd, Nat.reduceMul, size_newB, size_setB, blk_newB_self, own_newB_self, setB_setB, List.getElem?_toArray, List.getElem?_cons_zero, List.getElem?_cons_succ, List.length_cons, List.length_nil, List.all_cons, List.all_nil, isCell_int, isCell_bool, isCell_ptr, isCell_slice, isCell_func, Bool.and_true, Bool.and_self, and_self, if_true, List.size_toArray, and_true, true_and, Nat.reduceLeDiff, Nat.le_refl, Bool.not_true, Bool.not_false, Bool.true_and, Bool.false_and, Bool.and_false, Int.reduceBNe, Int.reduceBEq, Int.reduceLT, Int.reduceLE, decide_true, decide_false, bin_add, wi]
      exact ⟨⟨i + 1, rfl, by omega, hE2.trans hE3⟩, by show (8 - ((i + 1 : Nat) : Int)).toNat < (8 - (i : Int)).toNat; omega⟩
  · have hbR : buildV #[(.int .i64 0), (.int .i64 0), (.int .i64 0), (.int .i64 0), (.int .i64 0)] (places [(0, 1), (1, 1), (2, 1), (3, 1), (4, 1)]) [(2, (.int .i64 333000000)), (3, (.int .i64 166500000)), (4, (.int .i64 (-1)))] = some (rtv ⟨0, 0, 333000000, 166500000, -1⟩) := rfl
    simp only [z5_g82]
    try simp only [bnd_some, brV_t, brV_f, brG_t, brG_f, newE_u, pickE_t, pickE_f, nilV_p, faV_p, cells_int, cells_bool, cells_ptr, cells_slice, cells_func, cells_agg, bin_eql, bin_neq, bin_lss, bin_leq, bin_gtr, bin_geq, bin_eqlb, bin_neqb, bin_eqlp, bin_eqlp0, bin_neqp, bin_neqp0, bin_eqls, bin_eqls0, un_not, un_neg, len_s, cap_s, ex_t, cv_i, callV_f, Option.bind_some, Option.map_some, Nat.zero_add, Nat.add_zero, Nat.reduceAdd, Nat.reduceMul, size_newB, size_setB, blk_newB_self, own_newB_self, setB_setB, List.getElem?_toArray, List.getElem?_cons_zero, List.getElem?_cons_succ, List.length_cons, List.length_nil, List.all_cons, List.all_nil, isCell_int, isCell_bool, isCell_ptr, isCell_slice, isCell_func, Bool.and_true, Bool.and_self, and_self, if_true, List.size_toArray, and_true, true_and, Nat.reduceLeDiff, Nat.le_refl, Bool.not_true, Bool.not_false, Bool.true_and, Bool.false_and, Bool.and_false, Int.reduceBNe, Int.reduceBEq, Int.reduceLT, Int.reduceLE, decide_true, decide_false, hbR, st_rtt hsz]
    generalize hK2 : setB (newB K _ _) _ _ = K2
    have e2 : Ext [] K K2 := by rw [← hK2]; exact box_new.1
    have q2 : own K2 K.size = some (rttC ⟨0, 0, 333000000, 166500000, -1⟩) := by rw [← hK2]; exact box_new.2.1
    have F2 := e1.trans (hE.trans e2)
    have lit : ∀ {t : TypeId} {K : Heap} {p q : Pkt} {k : Value → Heap → Prop}, (∀ K' v, Ext [] K K' → ShowA pktE K' v [p, q] → CutOK v → k v K') →
        bslE t #[(.int .i64 0), (.int .i64 0), (.int .i64 0), (.bool false), (.bool false), (.bool false)] 6 2 [(0, pv p), (1, pv q)] K k := fun {t K p q k} hk => by
      refine bslE_l (E := pktE) (vs := [_, _]) (l := [p, q]) rfl rfl (fun i hi => ?_) (by decide) (by decide) fun K5 _ e5 o5 => ?_
      · match i, hi with
        | 0, _ => rfl
        | 1, _ => rfl
      exact hk K5 _ e5 o5.showA (CutOK.of_own o5)
    simp only [z5_g83]
    refine at_ev fun K3 e3 => at_ev fun K4 e4 => lit fun K5 vl e5 hl cl => ?_
    simp only [z5_g84]
    try simp only [bnd_some, brV_t, brV_f, brG_t, brG_f, newE_u, pickE_t, pickE_f, nilV_p, faV_p, cells_int, cells_bool, cells_ptr, cells_slice, cells_func, cells_agg, bin_eql, bin_neq, bin_lss, bin_leq, bin_gtr, bin_geq, bin_eqlb, bin_neqb, bin_eqlp, bin_eqlp0, bin_neqp, bin_neqp0, bin_eqls, bin_eqls0, un_not, un_neg, len_s, cap_s, ex_t, cv_i, callV_f, Option.bind_some, Option.map_some, Nat.zero_add, Nat.add_zero, Nat.reduceAdd, Nat.reduceMul, size_newB, size_setB, blk_newB_self, own_newB_self, setB_setB, List.getElem?_toArray, List.getElem?_cons_zero, List.getElem?_cons_succ, List.length_cons, List.length_nil, List.all_cons, List.all_nil, isCell_int, isCell_bool, isCell_ptr, isCell_slice, isCell_func, Bool.and_true, Bool.and_self, and_self, if_true, List.size_toArray, and_true, true_and, Nat.reduceLeDiff, Nat.le_refl, Bool.not_true, Bool.not_false, Bool.true_and, Bool.false_and, Bool.and_false, Int.reduceBNe, Int.reduceBEq, Int.reduceLT, Int.reduceLE, decide_true, decide_false, hbr]
    refine bslE_1 (E := rngE) (a := (3, 4)) rfl (fun K6 _ e6 o6 => ?_) (by decide)
    refine set_ev o6.showA fun K7 a7 e7 h7 => ?_
    have e57 := e6.trans e7
    try simp only [bnd_some, brV_t, brV_f, brG_t, brG_f, newE_u, pickE_t, pickE_f, nilV_p, faV_p, cells_int, cells_bool, cells_ptr, cells_slice, cells_func, cells_agg, bin_eql, bin_neq, bin_lss, bin_leq, bin_gtr, bin_geq, bin_eqlb, bin_neqb, bin_eqlp, bin_eqlp0, bin_neqp, bin_neqp0, bin_eqls, bin_eqls0, un_not, un_neg, len_s, cap_s, ex_t, cv_i, callV_f, Option.bind_some, Option.map_some, Nat.zero_add, Nat.add_zero, Nat.reduceAdd, Nat.reduceMul, size_newB, size_setB, blk_newB_self, own_newB_self, setB_setB, List.getElem?_toArray, List.getElem?_cons_zero, List.getElem?_cons_succ, List.length_cons, List.length_nil, List.all_cons, List.all_nil, isCell_int, isCell_bool, isCell_ptr, isCell_slice, isCell_func, Bool.and_true, Bool.and_self, and_self, if_true, List.size_toArray, and_true, true_and, Nat.reduceLeDiff, Nat.le_refl, Bool.not_true, Bool.not_false, Bool.true_and, Bool.false_and, Bool.and_false, Int.reduceBNe, Int.reduceBEq, Int.reduceLT, Int.reduceLE, decide_true, decide_false, hbt]
    refine isP_ev (w := (11, 3, 4)) (hl.ext e57) cl h7 fun K8 e8 => ?_
    rw [show sameP (period (setL [(3, 4)]) 5 [atP 3 9, atP 4 20]) (11, 3, 4) = true from by decide +kernel]
    try simp only [bnd_some, brV_t, brV_f, brG_t, brG_f, newE_u, pickE_t, pickE_f, nilV_p, faV_p, cells_int, cells_bool, cells_ptr, cells_slice, cells_func, cells_agg, bin_eql, bin_neq, bin_lss, bin_leq, bin_gtr, bin_geq, bin_eqlb, bin_neqb, bin_eqlp, bin_eqlp0, bin_neqp, bin_neqp0, bin_eqls, bin_eqls0, un_not, un_neg, len_s, cap_s, ex_t, cv_i, callV_f, Option.bind_some, Option.map_some, Nat.zero_add, Nat.add_zero, Nat.reduceAdd, Nat.reduceMul, size_newB, size_setB, blk_newB_self, own_newB_self, setB_setB, List.getElem?_toArray, List.getElem?_cons_zero, List.getElem?_cons_succ, List.length_cons, List.length_nil, List.all_cons, List.all_nil, isCell_int, isCell_bool, isCell_ptr, isCell_slice, isCell_func, Bool.and_true, Bool.and_self, and_self, if_true, List.size_toArray, and_true, true_and, Nat.reduceLeDiff, Nat.le_refl, Bool.not_true, Bool.not_false, Bool.true_and, Bool.false_and, Bool.and_false, Int.reduceBNe, Int.reduceBEq, Int.reduceLT, Int.reduceLE, decide_true, decide_false, hbr]
    refine bslE_1 (E := rngE) (a := (0, 9)) rfl (fun K9 _ e9 o9 => ?_) (by decide)
    refine set_ev o9.showA fun K10 a10 e10 h10 => ?_
    have e510 := e57.trans (e8.trans (e9.trans e10))
    try simp only [bnd_some, brV_t, brV_f, brG_t, brG_f, newE_u, pickE_t, pickE_f, nilV_p, faV_p, cells_int, cells_bool, cells_ptr, cells_slice, cells_func, cells_agg, bin_eql, bin_neq, bin_lss, bin_leq, bin_gtr, bin_geq, bin_eqlb, bin_neqb, bin_eqlp, bin_eqlp0, bin_neqp, bin_neqp0, bin_eqls, bin_eqls0, un_not, un_neg, len_s, cap_s, ex_t, cv_i, callV_f, Option.bind_some, Option.map_some, Nat.zero_add, Nat.add_zero, Nat.reduceAdd, Nat.reduceMul, size_newB, size_setB, blk_newB_self, own_newB_self, setB_setB, List.getElem?_toArray, List.getElem?_cons_zero, List.getElem?_cons_succ, List.length_cons, List.length_nil, List.all_cons, List.all_nil, isCell_int, isCell_bool, isCell_ptr, isCell_slice, isCell_func, Bool.and_true, Bool.and_self, and_self, if_true, List.size_toArray, and_true, true_and, Nat.reduceLeDiff, Nat.le_refl, Bool.not_true, Bool.not_false, Bool.true_and, Bool.false_and, Bool.and_false, Int.reduceBNe, Int.reduceBEq, Int.reduceLT, Int.reduceLE, decide_true, decide_false, hbt]
    refine isP_ev (w := (11, 3, 4)) (hl.ext e510) cl h10 fun K11 e11 => ?_
    rw [show sameP (period (setL [(0, 9)]) 5 [atP 3 9, atP 4 20]) (11, 3, 4) = true from by decide +kernel]
    have E11 := e3.trans (e4.trans (e5.trans (e510.trans e11)))
    simp only [z5_g85]
    try simp only [bnd_some, brV_t, brV_f, brG_t, brG_f, newE_u, pickE_t, pickE_f, nilV_p, faV_p, cells_int, cells_bool, cells_ptr, cells_slice, cells_func, cells_agg, bin_eql, bin_neq, bin_lss, bin_leq, bin_gtr, bin_geq, bin_eqlb, bin_neqb, bin_eqlp, bin_eqlp0, bin_neqp, bin_neqp0, bin_eqls, bin_eqls0, un_not, un_neg, len_s, cap_s, ex_t, cv_i, callV_f, Option.bind_some, Option.map_some, Nat.zero_add, Nat.add_zero, Nat.reduceAdd, Nat.reduceMul, size_newB, size_setB, blk_newB_self, own_newB_self, setB_setB, List.getElem?_toArray, List.getElem?_cons_zero, List.getElem?_cons_succ, List.length_cons, List.length_nil, List.all_cons, List.all_nil, isCell_int, isCell_bool, isCell_ptr, isCell_slice, isCell_func, Bool.and_true, Bool.and_self, and_self, if_true, List.size_toArray, and_true, true_and, Nat.reduceLeDiff, Nat.le_refl, Bool.not_true, Bool.not_false, Bool.true_and, Bool.false_and, Bool.and_false, Int.reduceBNe, Int.reduceBEq, Int.reduceLT, Int.reduceLE, decide_true, decide_false]
    refine works10_ev fun K12 e12 => ?_
    try simp only [bnd_some, brV_t, brV_f, brG_t, brG_f, newE_u, pickE_t, pickE_f, nilV_p, faV_p, cells_int, cells_bool, cells_ptr, cells_slice, cells_func, cells_agg, bin_eql, bin_neq, bin_lss, bin_leq, bin_gtr, bin_geq, bin_eqlb, bin_neqb, bin_eqlp, bin_eqlp0, bin_neqp, bin_neqp0, bin_eqls, bin_eqls0, un_not, un_neg, len_s, cap_s, ex_t, cv_i, callV_f, Option.bind_some, Option.map_some, Nat.zero_add, Nat.add_zero, Nat.reduceAdd, Nat.reduceMul, size_newB, size_setB, blk_newB_self, own_newB_self, setB_setB, List.getElem?_toArray, List.getElem?_cons_zero, List.getElem?_cons_succ, List.length_cons, List.length_nil, List.all_cons, List.all_nil, isCell_int, isCell_bool, isCell_ptr, isCell_slice, isCell_func, Bool.and_true, Bool.and_self, and_self, if_true, List.size_toArray, and_true, true_and, Nat.reduceLeDiff, Nat.le_refl, Bool.not_true, Bool.not_false, Bool.true_and, Bool.false_and, Bool.and_false, Int.reduceBNe, Int.reduceBEq, Int.reduceLT, Int.reduceLE, decide_true, decide_false]
    have nilP : ∀ K, ShowA pktE K (.slice none 0 0) [] := fun K => ⟨⟨none, 0, rfl, by simp⟩, .inl rfl⟩
    refine none_ev (nilP _) ⟨none, 0, 0, rfl, Nat.le_refl _, .inl rfl⟩ (ack _) fun K13 e13 => ?_
    rw [show noneP (period [] 0 []) = true from by decide +kernel]
    try simp only [bnd_some, brV_t, brV_f, brG_t, brG_f, newE_u, pickE_t, pickE_f, nilV_p, faV_p, cells_int, cells_bool, cells_ptr, cells_slice, cells_func, cells_agg, bin_eql, bin_neq, bin_lss, bin_leq, bin_gtr, bin_geq, bin_eqlb, bin_neqb, bin_eqlp, bin_eqlp0, bin_neqp, bin_neqp0, bin_eqls, bin_eqls0, un_not, un_neg, len_s, cap_s, ex_t, cv_i, callV_f, Option.bind_some, Option.map_some, Nat.zero_add, Nat.add_zero, Nat.reduceAdd, Nat.reduceMul, size_newB, size_setB, blk_newB_self, own_newB_self, setB_setB, List.getElem?_toArray, List.getElem?_cons_zero, List.getElem?_cons_succ, List.length_cons, List.length_nil, List.all_cons, List.all_nil, isCell_int, isCell_bool, isCell_ptr, isCell_slice, isCell_func, Bool.and_true, Bool.and_self, and_self, if_true, List.size_toArray, and_true, true_and, Nat.reduceLeDiff, Nat.le_refl, Bool.not_true, Bool.not_false, Bool.true_and, Bool.false_and, Bool.and_false, Int.reduceBNe, Int.reduceBEq, Int.reduceLT, Int.reduceLE, decide_true, decide_false]
    refine at_ev fun K14 e14 => ?_
    simp only [pkt0_C]
    refine bslE_1 (E := pktE) (a := atP 5 9) rfl (fun K15 _ e15 o15 => ?_) (by decide)
    refine none_ev o15.showA (CutOK.of_own o15) (ack _) fun K16 e16 => ?_
    rw [show noneP (period [] 0 [atP 5 9]) = true from by decide +kernel]
    have E16 := E11.trans (e12.trans (e13.trans (e14.trans (e15.trans e16))))
    have q16 := E16.own q2 (by simp)
    try simp only [bnd_some, brV_t, brV_f, brG_t, brG_f, newE_u, pickE_t, pickE_f, nilV_p, faV_p, cells_int, cells_bool, cells_ptr, cells_slice, cells_func, cells_agg, bin_eql, bin_neq, bin_lss, bin_leq, bin_gtr, bin_geq, bin_eqlb, bin_neqb, bin_eqlp, bin_eqlp0, bin_neqp, bin_neqp0, bin_eqls, bin_eqls0, un_not, un_neg, len_s, cap_s, ex_t, cv_i, callV_f, Option.bind_some, Option.map_some, Nat.zero_add, Nat.add_zero, Nat.reduceAdd, Nat.reduceMul, size_newB, size_setB, blk_newB_self, own_newB_self, setB_setB, List.getElem?_toArray, List.getElem?_cons_zero, List.getElem?_cons_succ, List.length_cons, List.length_nil, List.all_cons, List.all_nil, isCell_int, isCell_bool, isCell_ptr, isCell_slice, isCell_func, Bool.and_true, Bool.and_self, and_self, if_true, List.size_toArray, and_true, true_and, Nat.reduceLeDiff, Nat.le_refl, Bool.not_true, Bool.not_false, Bool.true_and, Bool.false_and, Bool.and_false, Int.reduceBNe, Int.reduceBEq, Int.reduceLT, Int.reduceLE, decide_true, decide_false, ldE_t, rdA_u, own_blk q16, rttC_g]
    refine at_ev fun K17 e17 => ?_
    have q17 := e17.own q16 (by simp)
    try simp only [bnd_some, brV_t, brV_f, brG_t, brG_f, newE_u, pickE_t, pickE_f, nilV_p, faV_p, cells_int, cells_bool, cells_ptr, cells_slice, cells_func, cells_agg, bin_eql, bin_neq, bin_lss, bin_leq, bin_gtr, bin_geq, bin_eqlb, bin_neqb, bin_eqlp, bin_eqlp0, bin_neqp, bin_neqp0, bin_eqls, bin_eqls0, un_not, un_neg, len_s, cap_s, ex_t, cv_i, callV_f, Option.bind_some, Option.map_some, Nat.zero_add, Nat.add_zero, Nat.reduceAdd, Nat.reduceMul, size_newB, size_setB, blk_newB_self, own_newB_self, setB_setB, List.getElem?_toArray, List.getElem?_cons_zero, List.getElem?_cons_succ, List.length_cons, List.length_nil, List.all_cons, List.all_nil, isCell_int, isCell_bool, isCell_ptr, isCell_slice, isCell_func, Bool.and_true, Bool.and_self, and_self, if_true, List.size_toArray, and_true, true_and, Nat.reduceLeDiff, Nat.le_refl, Bool.not_true, Bool.not_false, Bool.true_and, Bool.false_and, Bool.and_false, Int.reduceBNe, Int.reduceBEq, Int.reduceLT, Int.reduceLE, decide_true, decide_false, ldE_t, rdA_u, own_blk q17, rttC_g]
    refine at_ev fun K18 e18 => ?_
    have q18 := e18.own q17 (by simp)
    try simp only [bnd_some, brV_t, brV_f, brG_t, brG_f, newE_u, pickE_t, pickE_f, nilV_p, faV_p, cells_int, cells_bool, cells_ptr, cells_slice, cells_func, cells_agg, bin_eql, bin_neq, bin_lss, bin_leq, bin_gtr, bin_geq, bin_eqlb, bin_neqb, bin_eqlp, bin_eqlp0, bin_neqp, bin_neqp0, bin_eqls, bin_eqls0, un_not, un_neg, len_s, cap_s, ex_t, cv_i, callV_f, Option.bind_some, Option.map_some, Nat.zero_add, Nat.add_zero, Nat.reduceAdd, Nat.reduceMul, size_newB, size_setB, blk_newB_self, own_newB_self, setB_setB, List.getElem?_toArray, List.getElem?_cons_zero, List.getElem?_cons_succ, List.length_cons, List.length_nil, List.all_cons, List.all_nil, isCell_int, isCell_bool, isCell_ptr, isCell_slice, isCell_func, Bool.and_true, Bool.and_self, and_self, if_true, List.size_toArray, and_true, true_and, Nat.reduceLeDiff, Nat.le_refl, Bool.not_true, Bool.not_false, Bool.true_and, Bool.false_and, Bool.and_false, Int.reduceBNe, Int.reduceBEq, Int.reduceLT, Int.reduceLE, decide_true, decide_false, ldE_t, rdA_u, own_blk q18, rttC_g]
    refine lit fun K19 v19 e19 h19 c19 => ?_
    have q19 := e19.own q18 (by simp)
    try simp only [bnd_some, brV_t, brV_f, brG_t, brG_f, newE_u, pickE_t, pickE_f, nilV_p, faV_p, cells_int, cells_bool, cells_ptr, cells_slice, cells_func, cells_agg, bin_eql, bin_neq, bin_lss, bin_leq, bin_gtr, bin_geq, bin_eqlb, bin_neqb, bin_eqlp, bin_eqlp0, bin_neqp, bin_neqp0, bin_eqls, bin_eqls0, un_not, un_neg, len_s, cap_s, ex_t, cv_i, callV_f, Option.bind_some, Option.map_some, Nat.zero_add, Nat.add_zero, Nat.reduceAdd, Nat.reduceMul, size_newB, size_setB, blk_newB_self, own_newB_self, setB_setB, List.getElem?_toArray, List.getElem?_cons_zero, List.getElem?_cons_succ, List.length_cons, List.length_nil, List.all_cons, List.all_nil, isCell_int, isCell_bool, isCell_ptr, isCell_slice, isCell_func, Bool.and_true, Bool.and_self, and_self, if_true, List.size_toArray, and_true, true_and, Nat.reduceLeDiff, Nat.le_refl, Bool.not_true, Bool.not_false, Bool.true_and, Bool.false_and, Bool.and_false, Int.reduceBNe, Int.reduceBEq, Int.reduceLT, Int.reduceLE, decide_true, decide_false, ldE_t, rdA_u, own_blk q19, rttC_g]
    refine Is_ev (r := ⟨0, 0, 333000000, 166500000, -1⟩) h19 c19 (ack _) (by unfold In64r In64; decide) fun K20 e20 => ?_
    rw [show isLong [] [atP 1 8, atP 2 1125899906842624] ⟨0, 0, 333000000, 166500000, -1⟩ 0 = false from by decide +kernel]
    try simp only [bnd_some, brV_t, brV_f, brG_t, brG_f, newE_u, pickE_t, pickE_f, nilV_p, faV_p, cells_int, cells_bool, cells_ptr, cells_slice, cells_func, cells_agg, bin_eql, bin_neq, bin_lss, bin_leq, bin_gtr, bin_geq, bin_eqlb, bin_neqb, bin_eqlp, bin_eqlp0, bin_neqp, bin_neqp0, bin_eqls, bin_eqls0, un_not, un_neg, len_s, cap_s, ex_t, cv_i, callV_f, Option.bind_some, Option.map_some, Nat.zero_add, Nat.add_zero, Nat.reduceAdd, Nat.reduceMul, size_newB, size_setB, blk_newB_self, own_newB_self, setB_setB, List.getElem?_toArray, List.getElem?_cons_zero, List.getElem?_cons_succ, List.length_cons, List.length_nil, List.all_cons, List.all_nil, isCell_int, isCell_bool, isCell_ptr, isCell_slice, isCell_func, Bool.and_true, Bool.and_self, and_self, if_true, List.size_toArray, and_true, true_and, Nat.reduceLeDiff, Nat.le_refl, Bool.not_true, Bool.not_false, Bool.true_and, Bool.false_and, Bool.and_false, Int.reduceBNe, Int.reduceBEq, Int.reduceLT, Int.reduceLE, decide_true, decide_false]
    exact hR K20 (F2.trans (E16.trans (e17.trans (e18.trans (e19.trans e20)))))
end Go.Hc

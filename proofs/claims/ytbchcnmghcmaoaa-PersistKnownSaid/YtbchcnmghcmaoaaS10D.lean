/- The period: the walk. -/
import Derived.Test.YtbchcnmghcmaoaaS10C
set_option linter.unusedSimpArgs false
set_option linter.unusedVariables false
namespace Go.Hc
open Go

theorem okPk_of {l : List Pkt} (h : checkE l = 0) : ∀ p ∈ l, okPk p := by
  have hok : okL l = true := by
    unfold checkE at h
    split at h
    · cases h
    · split at h
      · assumption
      · cases h
  have hn : ∀ k (hk : k < l.length), 0 ≤ l[k].num := by
    intro k
    induction k with
    | zero => intro hk; have := (okP_spec.1 (okL_at hok hk)).1; simp [lastN] at this; omega
    | succ k ih =>
      intro hk
      have h1 := (okP_spec.1 (okL_at hok hk)).1
      have h2 := ih (by omega)
      unfold lastN at h1
      rw [if_neg (by omega), Nat.add_sub_cancel, getDP (by omega)] at h1
      omega
  intro p hp
  obtain ⟨k, hk, rfl⟩ := List.getElem_of_mem hp
  have h1 := okP_spec.1 (okL_at hok hk)
  exact ⟨hn k hk, h1.2.1, h1.2.2.1, h1.2.2.2.1⟩
theorem checkE_or (l : List Pkt) : checkE l = 0 ∨ checkE l = 2 := by
  unfold checkE
  split
  · exact .inr rfl
  · split
    · exact .inl rfl
    · exact .inr rfl
theorem st_same {K : Heap} {x : Nat} {y : Value} (ho : own K x = some #[y]) (hy : y.cells = #[y]) (hc : isCell y = true) : stE 1 (.pointer (some ⟨x, 0, none⟩)) y K = some K := by
  rw [stE_p, hy, if_pos (show (#[y] : Array Value).size = 1 from rfl), wrA_b, ho]
  have : splice #[y] 0 #[y].toList = #[y] := rfl
  simp [hc, this, setB_self (own_blk ho)]
theorem PairsAt.ext {H : Heap} {v a : Value} {first : Int} {x3 x4 x5 x7 x8 : Nat} {K K' : Heap} {S : List Nat} (h : PairsAt H v a first x3 x4 x5 x7 x8 K) (he : Ext S K K')
    (hS : ∀ b ∈ S, H.size ≤ b) (hx : ∀ x ∈ [x3, x4, x5, x7, x8], x ∉ S) : PairsAt H v a first x3 x4 x5 x7 x8 K' :=
  ⟨h.e.thru he fun b hb => .inr (hS b hb), he.own h.b3 (hx _ (by simp)), he.own h.b4 (hx _ (by simp)), he.own h.b5 (hx _ (by simp)), he.own h.b7 (hx _ (by simp)), he.own h.b8 (hx _ (by simp))⟩
theorem ShowA.cell {A : Type} {E : Enc A} {H : Heap} {v : Value} {l : List A} (h : ShowA E H v l) : v.cells = #[v] ∧ isCell v = true := by
  obtain ⟨⟨_, _, rfl, _⟩, _⟩ := h; exact ⟨rfl, rfl⟩
theorem AckV.cell {K : Heap} {a : Value} {rs : List Rng} (h : AckV K a rs) : a.cells = #[a] ∧ isCell a = true := by
  rcases h with ⟨rfl, _⟩ | ⟨s, room, T, rfl, _⟩
  · exact ⟨rfl, rfl⟩
  · exact ⟨rfl, rfl⟩
theorem Period_ev {H : Heap} {v a : Value} {first : Int} {l : List Pkt} {rs : List Rng} {R : Value → Heap → Prop} (hv : ShowA pktE H v l) (hc : CutOK v) (hack : AckV H a rs)
    (hR : ∀ H', Ext [] H H' → R (perV (period rs first l)) H') : EvF P N.persist_Period #[v, a, iv first] H R := by
  refine z11_ev _ _ _ _ _ ?_
  simp only [persist_Period, z11_g23]
  try simp only [bnd_some, brV_t, brV_f, brG_t, brG_f, newE_u, pickE_t, pickE_f, nilV_p, faV_p, cells_int, cells_bool, cells_ptr, cells_slice, cells_func, cells_agg, bin_eql, bin_neq, bin_lss, bin_leq, bin_gtr, bin_geq, bin_eqlb, bin_neqb, bin_eqlp, bin_eqlp0, bin_neqp, bin_neqp0, bin_eqls, bin_eqls0, un_not, un_neg, len_s, cap_s, ex_t, cv_i, callV_f, Option.bind_some, Option.map_some, Nat.zero_add, Nat.add_zero, Nat.reduceAdd, Nat.reduceMul, size_newB, size_setB, blk_newB_self, own_newB_self, setB_setB, List.getElem?_toArray, List.getElem?_cons_zero, List.getElem?_cons_succ, List.length_cons, List.length_nil, List.all_cons, List.all_nil, isCell_int, isCell_bool, isCell_ptr, isCell_slice, isCell_func, Bool.and_true, Bool.and_self, and_self, if_true, List.size_toArray, and_true, true_and, Nat.reduceLeDiff, Nat.le_refl, Bool.not_true, Bool.not_false, Bool.true_and, Bool.false_and, Bool.and_false, Int.reduceBNe, Int.reduceBEq, Int.reduceLT, Int.reduceLE, decide_true, decide_false]
  generalize hK1 : newB H _ _ = K1
  have s1 : K1.size = H.size + 1 := by rw [← hK1, size_newB]
  have e1 : Ext [] H K1 := by rw [← hK1]; exact (Ext.refl _ _).newB _ _
  have q6 : own K1 H.size = some #[iv 0] := by rw [← hK1]; exact own_newB_self
  generalize hK2 : newB K1 _ _ = K2
  have s2 : K2.size = H.size + 2 := by rw [← hK2, size_newB, s1]
  have e2 : Ext [] K1 K2 := by rw [← hK2]; exact (Ext.refl _ _).newB _ _
  have q7 : own K2 (H.size + 1) = some #[iv 0] := by rw [← hK2, ← s1]; exact own_newB_self
  generalize hK3 : newB K2 _ _ = K3
  have s3 : K3.size = H.size + 3 := by rw [← hK3, size_newB, s2]
  have e3 : Ext [] K2 K3 := by rw [← hK3]; exact (Ext.refl _ _).newB _ _
  have q8 : own K3 (H.size + 2) = some #[iv 0] := by rw [← hK3, ← s2]; exact own_newB_self
  generalize hK4 : newB K3 _ _ = K4
  have s4 : K4.size = H.size + 4 := by rw [← hK4, size_newB, s3]
  have e4 : Ext [] K3 K4 := by rw [← hK4]; exact (Ext.refl _ _).newB _ _
  have q9 : own K4 (H.size + 3) = some #[.bool false] := by rw [← hK4, ← s3]; exact own_newB_self
  have k4 : KeepAt H.size (0, 0, 0, false) K4 := ⟨(e2.trans (e3.trans e4)).own q6 (by simp), (e3.trans e4).own q7 (by simp), e4.own q8 (by simp), q9⟩
  have E4 : Ext [] H K4 := e1.trans (e2.trans (e3.trans e4))
  have bad : ∀ K, Ext [] K4 K → period rs first l = (0, 0, 0, false) → z11_g25 (fun x6 x7 x8 x9 H => bnd (ldE false 1 x6 H) fun r0 =>
      bnd (ldE false 1 x7 H) fun r1 => bnd (ldE false 1 x8 H) fun r2 => bnd (ldE false 1 x9 H) fun r3 => R (.tuple #[r0, r1, r2, r3]) H) (ptr H.size) (ptr (H.size + 1)) (ptr (H.size + 1 + 1)) (ptr (H.size + 1 + 1 + 1)) K := fun K e hp => by
    obtain ⟨p6, p7, p8, p9⟩ := k4.ext e (by simp)
    simp only [z11_g25]
    have t6 := st_same p6 rfl rfl
    have t7 := st_same p7 rfl rfl
    have t8 := st_same p8 rfl rfl
    have t9 := st_same p9 rfl rfl
    try simp only [bnd_some, brV_t, brV_f, brG_t, brG_f, newE_u, pickE_t, pickE_f, nilV_p, faV_p, cells_int, cells_bool, cells_ptr, cells_slice, cells_func, cells_agg, bin_eql, bin_neq, bin_lss, bin_leq, bin_gtr, bin_geq, bin_eqlb, bin_neqb, bin_eqlp, bin_eqlp0, bin_neqp, bin_neqp0, bin_eqls, bin_eqls0, un_not, un_neg, len_s, cap_s, ex_t, cv_i, callV_f, Option.bind_some, Option.map_some, Nat.zero_add, Nat.add_zero, Nat.reduceAdd, Nat.reduceMul, size_newB, size_setB, blk_newB_self, own_newB_self, setB_setB, List.getElem?_toArray, List.getElem?_cons_zero, List.getElem?_cons_succ, List.length_cons, List.length_nil, List.all_cons, List.all_nil, isCell_int, isCell_bool, isCell_ptr, isCell_slice, isCell_func, Bool.and_true, Bool.and_self, and_self, if_true, List.size_toArray, and_true, true_and, Nat.reduceLeDiff, Nat.le_refl, Bool.not_true, Bool.not_false, Bool.true_and, Bool.false_and, Bool.and_false, Int.reduceBNe, Int.reduceBEq, Int.reduceLT, Int.reduceLE, decide_true, decide_false, Nat.add_assoc, Nat.reduceAdd, t6, t7, t8, t9, ldE_f, own_blk p6, own_blk p7, own_blk p8, own_blk p9]
    have := hR K (E4.trans e)
    rw [hp] at this; exact this
  simp only [z11_g24]
  refine lossCheck_ev (hv.ext E4) fun K5 e5 => ?_
  rcases checkE_or l with hce | hce
  · try simp only [bnd_some, brV_t, brV_f, brG_t, brG_f, newE_u, pickE_t, pickE_f, nilV_p, faV_p, cells_int, cells_bool, cells_ptr, cells_slice, cells_func, cells_agg, bin_eql, bin_neq, bin_lss, bin_leq, bin_gtr, bin_geq, bin_eqlb, bin_neqb, bin_eqlp, bin_eqlp0, bin_neqp, bin_neqp0, bin_eqls, bin_eqls0, un_not, un_neg, len_s, cap_s, ex_t, cv_i, callV_f, Option.bind_some, Option.map_some, Nat.zero_add, Nat.add_zero, Nat.reduceAdd, Nat.reduceMul, size_newB, size_setB, blk_newB_self, own_newB_self, setB_setB, List.getElem?_toArray, List.getElem?_cons_zero, List.getElem?_cons_succ, List.length_cons, List.length_nil, List.all_cons, List.all_nil, isCell_int, isCell_bool, isCell_ptr, isCell_slice, isCell_func, Bool.and_true, Bool.and_self, and_self, if_true, List.size_toArray, and_true, true_and, Nat.reduceLeDiff, Nat.le_refl, Bool.not_true, Bool.not_false, Bool.true_and, Bool.false_and, Bool.and_false, Int.reduceBNe, Int.reduceBEq, Int.reduceLT, Int.reduceLE, decide_true, decide_false, hce]
    refine satIs_ev ?_
    try simp only [bnd_some, brV_t, brV_f, brG_t, brG_f, newE_u, pickE_t, pickE_f, nilV_p, faV_p, cells_int, cells_bool, cells_ptr, cells_slice, cells_func, cells_agg, bin_eql, bin_neq, bin_lss, bin_leq, bin_gtr, bin_geq, bin_eqlb, bin_neqb, bin_eqlp, bin_eqlp0, bin_neqp, bin_neqp0, bin_eqls, bin_eqls0, un_not, un_neg, len_s, cap_s, ex_t, cv_i, callV_f, Option.bind_some, Option.map_some, Nat.zero_add, Nat.add_zero, Nat.reduceAdd, Nat.reduceMul, size_newB, size_setB, blk_newB_self, own_newB_self, setB_setB, List.getElem?_toArray, List.getElem?_cons_zero, List.getElem?_cons_succ, List.length_cons, List.length_nil, List.all_cons, List.all_nil, isCell_int, isCell_bool, isCell_ptr, isCell_slice, isCell_func, Bool.and_true, Bool.and_self, and_self, if_true, List.size_toArray, and_true, true_and, Nat.reduceLeDiff, Nat.le_refl, Bool.not_true, Bool.not_false, Bool.true_and, Bool.false_and, Bool.and_false, Int.reduceBNe, Int.reduceBEq, Int.reduceLT, Int.reduceLE, decide_true, decide_false]
    by_cases hf : 0 ≤ first ∧ first ≤ 9007199254740991
    · simp only [decide_eq_true hf]
      try simp only [bnd_some, brV_t, brV_f, brG_t, brG_f, newE_u, pickE_t, pickE_f, nilV_p, faV_p, cells_int, cells_bool, cells_ptr, cells_slice, cells_func, cells_agg, bin_eql, bin_neq, bin_lss, bin_leq, bin_gtr, bin_geq, bin_eqlb, bin_neqb, bin_eqlp, bin_eqlp0, bin_neqp, bin_neqp0, bin_eqls, bin_eqls0, un_not, un_neg, len_s, cap_s, ex_t, cv_i, callV_f, Option.bind_some, Option.map_some, Nat.zero_add, Nat.add_zero, Nat.reduceAdd, Nat.reduceMul, size_newB, size_setB, blk_newB_self, own_newB_self, setB_setB, List.getElem?_toArray, List.getElem?_cons_zero, List.getElem?_cons_succ, List.length_cons, List.length_nil, List.all_cons, List.all_nil, isCell_int, isCell_bool, isCell_ptr, isCell_slice, isCell_func, Bool.and_true, Bool.and_self, and_self, if_true, List.size_toArray, and_true, true_and, Nat.reduceLeDiff, Nat.le_refl, Bool.not_true, Bool.not_false, Bool.true_and, Bool.false_and, Bool.and_false, Int.reduceBNe, Int.reduceBEq, Int.reduceLT, Int.reduceLE, decide_true, decide_false]
      have hper : period rs first l = perS rs first l := if_pos ⟨hce, hf⟩
      have hok := okPk_of hce
      simp only [z11_g26]
      try simp only [bnd_some, brV_t, brV_f, brG_t, brG_f, newE_u, pickE_t, pickE_f, nilV_p, faV_p, cells_int, cells_bool, cells_ptr, cells_slice, cells_func, cells_agg, bin_eql, bin_neq, bin_lss, bin_leq, bin_gtr, bin_geq, bin_eqlb, bin_neqb, bin_eqlp, bin_eqlp0, bin_neqp, bin_neqp0, bin_eqls, bin_eqls0, un_not, un_neg, len_s, cap_s, ex_t, cv_i, callV_f, Option.bind_some, Option.map_some, Nat.zero_add, Nat.add_zero, Nat.reduceAdd, Nat.reduceMul, size_newB, size_setB, blk_newB_self, own_newB_self, setB_setB, List.getElem?_toArray, List.getElem?_cons_zero, List.getElem?_cons_succ, List.length_cons, List.length_nil, List.all_cons, List.all_nil, isCell_int, isCell_bool, isCell_ptr, isCell_slice, isCell_func, Bool.and_true, Bool.and_self, and_self, if_true, List.size_toArray, and_true, true_and, Nat.reduceLeDiff, Nat.le_refl, Bool.not_true, Bool.not_false, Bool.true_and, Bool.false_and, Bool.and_false, Int.reduceBNe, Int.reduceBEq, Int.reduceLT, Int.reduceLE, decide_true, decide_false, st_box (f := .func _ _ _) rfl rfl]
      generalize hK6 : setB (newB K5 _ _) _ _ = K6
      have e6 : Ext [] K5 K6 := by rw [← hK6]; exact box_new.1
      have q10 : own K6 K5.size = some #[.func (.func N.persist_Period_1) #[] #[ptr (H.size + 3), ptr H.size, ptr (H.size + 1), ptr (H.size + 2)]] := by rw [← hK6]; exact box_new.2.1
      simp only [z11_g27]
      refine pairs_ev (E4.trans (e5.trans e6)) hv.cell.1 hack.cell.1 fun K7 x3 x4 x5 x7 x8 e7 hlow hpa => ?_
      intro fn l' hl' hx10
      have E47 := e5.trans (e6.trans e7)
      have z7 := E47.size
      have z67 := (e6.trans e7).size
      have r10 := e7.own q10 (by simp)
      have hlow4 : ∀ x ∈ [x3, x4, x5, x7, x8], x ∉ cells4 H.size := fun x hx hm => by
        have := hlow x hx
        have := (e5.trans e6).size
        simp [cells4] at hm; omega
      have h10 : K5.size ∉ cells4 H.size := fun hm => by have := e5.size; simp [cells4] at hm; omega
      obtain ⟨lp, hlp⟩ : ∃ lp, lp = K7.size + 1 := ⟨_, rfl⟩
      rw [← hlp]
      generalize hK8 : pushO (pushO K7 _) _ = K8
      have e8 : Ext [] K7 K8 := by rw [← hK8]; exact ((Ext.refl _ _).pushO _).pushO _
      have o1 : K8.arr[lp]? = some (.loop (z11_L fn l' K7.size)) := by rw [← hK8]; exact arr_pushO_at (by rw [size_pushO, hlp])
      have o2 : K8.arr[K7.size]? = some (.deferred (some [])) := by rw [← hK8]; exact ((Ext.refl [] _).pushO _).arr (arr_pushO_at rfl) (by simp)
      refine callL_mono (fun _ H2 hh => ?_) (k := fun _ K => PairsAt H v a first x3 x4 x5 x7 x8 K ∧ KeepAt H.size (perS rs first l) K ∧ own K K5.size = some #[.func (.func N.persist_Period_1) #[] #[ptr (H.size + 3), ptr H.size, ptr (H.size + 1), ptr (H.size + 2)]] ∧
          K.arr[lp]? = some (.loop (z11_L fn l' K7.size)) ∧ K.arr[K7.size]? = some (.deferred (some []))) ?_
      · obtain ⟨hp, hk, h10', hl1, hl2⟩ := hh
        have hne2 : K7.size ≠ lp := by omega
        refine ⟨hl1, ?_⟩
        generalize hL : setO H2 lp _ = L1
        have f1 : Ext [lp] H2 L1 := by rw [← hL]; exact (Ext.refl _ _).setO _ _ (Or.inl (by simp))
        have lpn : ∀ {x : Nat} {c : Array Value}, own H2 x = some c → x ∉ [lp] := fun h => by simpa using own_ne h hl1
        have p6 := f1.own hk.1 (lpn hk.1)
        have p7 := f1.own hk.2.1 (lpn hk.2.1)
        have p8 := f1.own hk.2.2.1 (lpn hk.2.2.1)
        have p9 := f1.own hk.2.2.2 (lpn hk.2.2.2)
        simp only [z11_g33]
        have t6 := st_same p6 rfl rfl
        have t7 := st_same p7 rfl rfl
        have t8 := st_same p8 rfl rfl
        have t9 := st_same p9 rfl rfl
        try simp only [bnd_some, brV_t, brV_f, brG_t, brG_f, newE_u, pickE_t, pickE_f, nilV_p, faV_p, cells_int, cells_bool, cells_ptr, cells_slice, cells_func, cells_agg, bin_eql, bin_neq, bin_lss, bin_leq, bin_gtr, bin_geq, bin_eqlb, bin_neqb, bin_eqlp, bin_eqlp0, bin_neqp, bin_neqp0, bin_eqls, bin_eqls0, un_not, un_neg, len_s, cap_s, ex_t, cv_i, callV_f, Option.bind_some, Option.map_some, Nat.zero_add, Nat.add_zero, Nat.reduceAdd, Nat.reduceMul, size_newB, size_setB, blk_newB_self, own_newB_self, setB_setB, List.getElem?_toArray, List.getElem?_cons_zero, List.getElem?_cons_succ, List.length_cons, List.length_nil, List.all_cons, List.all_nil, isCell_int, isCell_bool, isCell_ptr, isCell_slice, isCell_func, Bool.and_true, Bool.and_self, and_self, if_true, List.size_toArray, and_true, true_and, Nat.reduceLeDiff, Nat.le_refl, Bool.not_true, Bool.not_false, Bool.true_and, Bool.false_and, Bool.and_false, Int.reduceBNe, Int.reduceBEq, Int.reduceLT, Int.reduceLE, decide_true, decide_false, Nat.add_assoc, Nat.reduceAdd, t6, t7, t8, t9, ldE_f, own_blk p6, own_blk p7, own_blk p8, own_blk p9]
        refine ⟨by rw [← hL, arr_setO_ne hne2]; exact hl2, ?_⟩
        generalize hM : setO L1 K7.size _ = L2
        have f2 : Ext [K7.size] L1 L2 := by rw [← hM]; exact (Ext.refl _ _).setO _ _ (Or.inl (by simp))
        have o7 : L1.arr[K7.size]? = some (.deferred (some [])) := by rw [← hL, arr_setO_ne hne2]; exact hl2
        have dn : ∀ {x : Nat} {c : Array Value}, own L1 x = some c → x ∉ [K7.size] := fun h => by simpa using own_ned h o7
        have r6 := f2.own p6 (dn p6)
        have r7 := f2.own p7 (dn p7)
        have r8 := f2.own p8 (dn p8)
        have r9 := f2.own p9 (dn p9)
        try simp only [bnd_some, brV_t, brV_f, brG_t, brG_f, newE_u, pickE_t, pickE_f, nilV_p, faV_p, cells_int, cells_bool, cells_ptr, cells_slice, cells_func, cells_agg, bin_eql, bin_neq, bin_lss, bin_leq, bin_gtr, bin_geq, bin_eqlb, bin_neqb, bin_eqlp, bin_eqlp0, bin_neqp, bin_neqp0, bin_eqls, bin_eqls0, un_not, un_neg, len_s, cap_s, ex_t, cv_i, callV_f, Option.bind_some, Option.map_some, Nat.zero_add, Nat.add_zero, Nat.reduceAdd, Nat.reduceMul, size_newB, size_setB, blk_newB_self, own_newB_self, setB_setB, List.getElem?_toArray, List.getElem?_cons_zero, List.getElem?_cons_succ, List.length_cons, List.length_nil, List.all_cons, List.all_nil, isCell_int, isCell_bool, isCell_ptr, isCell_slice, isCell_func, Bool.and_true, Bool.and_self, and_self, if_true, List.size_toArray, and_true, true_and, Nat.reduceLeDiff, Nat.le_refl, Bool.not_true, Bool.not_false, Bool.true_and, Bool.false_and, Bool.and_false, Int.reduceBNe, Int.reduceBEq, Int.reduceLT, Int.reduceLE, decide_true, decide_false, ldE_f, own_blk r6, own_blk r7, own_blk r8, own_blk r9]
        have := hR L2 ((hp.e.thru f1 (by simp; have := E4.size; omega)).thru f2 (by simp; have := E4.size; omega))
        rw [hper] at this
        exact this
      · simp only [callL]
        refine pairs3_ev (σ := Per) (S := lp :: cells4 H.size) (g := keepS) (s0 := (0, 0, 0, false)) (fun s K => PairsAt H v a first x3 x4 x5 x7 x8 K ∧ KeepAt H.size s K ∧ own K K5.size = some #[.func (.func N.persist_Period_1) #[] #[ptr (H.size + 3), ptr H.size, ptr (H.size + 1), ptr (H.size + 2)]] ∧
          K.arr[lp]? = some (.loop (z11_L fn l' K7.size)) ∧ K.arr[K7.size]? = some (.deferred (some []))) hv hc hv.cell.2 hok hack hack.cell.2 (fun s K h => h.1)
          (fun s K K' h e => ⟨h.1.ext e (by simp) (by simp), h.2.1.ext e (by simp), e.own h.2.2.1 (by simp), e.arr h.2.2.2.1 (by simp), e.arr h.2.2.2.2 (by simp)⟩)
          ⟨hpa.ext e8 (by simp) (by simp), k4.ext (E47.trans e8) (by simp), e8.own r10 (by simp), o1, o2⟩ (fun s p q K hp hq hpq hI => ?_) (fun b hb => ?_) (fun K hI => hI)
        · obtain ⟨hp1, hk1, h10', hl1, hl2⟩ := hI
          refine callV_y (z11_y fn _ l' hl' _ _ _ K _ hl1 ?_)
          rw [hx10]
          simp only [z11_r, z11_g31]
          try simp only [bnd_some, brV_t, brV_f, brG_t, brG_f, newE_u, pickE_t, pickE_f, nilV_p, faV_p, cells_int, cells_bool, cells_ptr, cells_slice, cells_func, cells_agg, bin_eql, bin_neq, bin_lss, bin_leq, bin_gtr, bin_geq, bin_eqlb, bin_neqb, bin_eqlp, bin_eqlp0, bin_neqp, bin_neqp0, bin_eqls, bin_eqls0, un_not, un_neg, len_s, cap_s, ex_t, cv_i, callV_f, Option.bind_some, Option.map_some, Nat.zero_add, Nat.add_zero, Nat.reduceAdd, Nat.reduceMul, size_newB, size_setB, blk_newB_self, own_newB_self, setB_setB, List.getElem?_toArray, List.getElem?_cons_zero, List.getElem?_cons_succ, List.length_cons, List.length_nil, List.all_cons, List.all_nil, isCell_int, isCell_bool, isCell_ptr, isCell_slice, isCell_func, Bool.and_true, Bool.and_self, and_self, if_true, List.size_toArray, and_true, true_and, Nat.reduceLeDiff, Nat.le_refl, Bool.not_true, Bool.not_false, Bool.true_and, Bool.false_and, Bool.and_false, Int.reduceBNe, Int.reduceBEq, Int.reduceLT, Int.reduceLE, decide_true, decide_false, pkt0_C, st_pkt]
          generalize hA : setB (newB K _ _) _ _ = A1
          have a1 : Ext [] K A1 := by rw [← hA]; exact box_new.1
          have b1 : own A1 K.size = some (pktC p) := by rw [← hA]; exact box_new.2.1
          simp only [z11_g32]
          try simp only [bnd_some, brV_t, brV_f, brG_t, brG_f, newE_u, pickE_t, pickE_f, nilV_p, faV_p, cells_int, cells_bool, cells_ptr, cells_slice, cells_func, cells_agg, bin_eql, bin_neq, bin_lss, bin_leq, bin_gtr, bin_geq, bin_eqlb, bin_neqb, bin_eqlp, bin_eqlp0, bin_neqp, bin_neqp0, bin_eqls, bin_eqls0, un_not, un_neg, len_s, cap_s, ex_t, cv_i, callV_f, Option.bind_some, Option.map_some, Nat.zero_add, Nat.add_zero, Nat.reduceAdd, Nat.reduceMul, size_newB, size_setB, blk_newB_self, own_newB_self, setB_setB, List.getElem?_toArray, List.getElem?_cons_zero, List.getElem?_cons_succ, List.length_cons, List.length_nil, List.all_cons, List.all_nil, isCell_int, isCell_bool, isCell_ptr, isCell_slice, isCell_func, Bool.and_true, Bool.and_self, and_self, if_true, List.size_toArray, and_true, true_and, Nat.reduceLeDiff, Nat.le_refl, Bool.not_true, Bool.not_false, Bool.true_and, Bool.false_and, Bool.and_false, Int.reduceBNe, Int.reduceBEq, Int.reduceLT, Int.reduceLE, decide_true, decide_false, pkt0_C, st_pkt]
          generalize hB : setB (newB A1 _ _) _ _ = A2
          have a2 : Ext [] A1 A2 := by rw [← hB]; exact box_new.1
          have b2 : own A2 A1.size = some (pktC q) := by rw [← hB]; exact box_new.2.1
          have a12 := a1.trans a2
          have o1' := a12.arr hl1 (by simp)
          have o2' := a12.arr hl2 (by simp)
          refine ⟨o1', ?_⟩
          simp only [z11_s28, z11_g29]
          generalize hC : setO A2 lp _ = A3
          have a3 : Ext [lp] A2 A3 := by rw [← hC]; exact (Ext.refl _ _).setO _ _ (Or.inl (by simp))
          have o3 : A3.arr[lp]? = some (.loop (busy (z11_L fn l' K7.size))) := by rw [← hC]; exact arr_setO_self (arr_lt o1')
          have lpn : ∀ {x : Nat} {c : Array Value}, own A2 x = some c → x ∉ [lp] := fun h => by simpa using own_ne h o1'
          have c1 := a3.own (a2.own b1 (by simp)) (lpn (a2.own b1 (by simp)))
          have c2 := a3.own b2 (lpn b2)
          have c10 := a3.own (a12.own h10' (by simp)) (lpn (a12.own h10' (by simp)))
          have k3 : KeepAt H.size s A3 := (hk1.ext a12 (by simp)).ext a3 fun b hb => by
            have kk := hk1.ext a12 (by simp)
            simp only [cells4, List.mem_cons, List.not_mem_nil, or_false] at hb
            rcases hb with rfl | rfl | rfl | rfl
            · exact lpn kk.1
            · exact lpn kk.2.1
            · exact lpn kk.2.2.1
            · exact lpn kk.2.2.2
          try simp only [bnd_some, brV_t, brV_f, brG_t, brG_f, newE_u, pickE_t, pickE_f, nilV_p, faV_p, cells_int, cells_bool, cells_ptr, cells_slice, cells_func, cells_agg, bin_eql, bin_neq, bin_lss, bin_leq, bin_gtr, bin_geq, bin_eqlb, bin_neqb, bin_eqlp, bin_eqlp0, bin_neqp, bin_neqp0, bin_eqls, bin_eqls0, un_not, un_neg, len_s, cap_s, ex_t, cv_i, callV_f, Option.bind_some, Option.map_some, Nat.zero_add, Nat.add_zero, Nat.reduceAdd, Nat.reduceMul, size_newB, size_setB, blk_newB_self, own_newB_self, setB_setB, List.getElem?_toArray, List.getElem?_cons_zero, List.getElem?_cons_succ, List.length_cons, List.length_nil, List.all_cons, List.all_nil, isCell_int, isCell_bool, isCell_ptr, isCell_slice, isCell_func, Bool.and_true, Bool.and_self, and_self, if_true, List.size_toArray, and_true, true_and, Nat.reduceLeDiff, Nat.le_refl, Bool.not_true, Bool.not_false, Bool.true_and, Bool.false_and, Bool.and_false, Int.reduceBNe, Int.reduceBEq, Int.reduceLT, Int.reduceLE, decide_true, decide_false, ldE_f, ldE_t, rdA_u, own_blk c1, own_blk c2, own_blk c10, pktC_g]
          refine keep_ev k3 (hok p hp) (hok q hq) fun A4 a4 k4' => ?_
          have n4 : lp ∉ cells4 H.size := fun hm => by
            have h1 : ∀ {x : Nat} {c : Array Value}, own A3 x = some c → x ≠ lp := fun h => own_ne h o3
            simp only [cells4, List.mem_cons, List.not_mem_nil, or_false] at hm
            rcases hm with h | h | h | h
            · exact h1 k3.1 h.symm
            · exact h1 k3.2.1 h.symm
            · exact h1 k3.2.2.1 h.symm
            · exact h1 k3.2.2.2 h.symm
          have o4 := a4.arr o3 n4
          refine ⟨o4, ?_⟩
          generalize hD : setO A4 lp _ = A5
          have a5 : Ext [lp] A4 A5 := by rw [← hD]; exact (Ext.refl _ _).setO _ _ (Or.inl (by simp))
          have eAll : Ext (lp :: cells4 H.size) K A5 := (a12.mono (by simp)).trans ((a3.mono (by simp)).trans ((a4.mono (by simp; exact fun b hb => .inl (.inr hb))).trans (a5.mono (by simp))))
          have nlp : ∀ {x : Nat} {c : Array Value}, own K x = some c → x ≠ lp := fun h => own_ne h hl1
          refine ⟨⟨hp1.ext eAll ?_ ?_, k4'.ext a5 ?_, eAll.own h10' ?_, ?_, eAll.arr hl2 ?_⟩, eAll⟩
          · intro b hb
            rcases List.mem_cons.1 hb with rfl | hb
            · have := E4.size; omega
            · simp [cells4] at hb; omega
          · intro x hx hm
            rcases List.mem_cons.1 hm with rfl | hm
            · simp only [List.mem_cons, List.not_mem_nil, or_false] at hx
              rcases hx with h | h | h | h | h
              · exact nlp hp1.b3 h.symm
              · exact nlp hp1.b4 h.symm
              · exact nlp hp1.b5 h.symm
              · exact nlp hp1.b7 h.symm
              · exact nlp hp1.b8 h.symm
            · exact hlow4 x hx hm
          · intro b hb hm
            simp at hm; subst hm; exact n4 hb
          · intro hm
            rcases List.mem_cons.1 hm with h | hm
            · exact nlp h10' h
            · exact h10 hm
          · rw [← hD]; exact arr_setO_self (arr_lt o4)
          · intro hm
            rcases List.mem_cons.1 hm with h | hm
            · omega
            · have := E47.size; simp [cells4] at hm; omega
        · have h8 := k4.ext (E47.trans e8) (by simp)
          have := h8.lt
          have := arr_lt o1
          simp [cells4] at hb; omega
    · simp only [decide_eq_false hf]
      try simp only [bnd_some, brV_t, brV_f, brG_t, brG_f, newE_u, pickE_t, pickE_f, nilV_p, faV_p, cells_int, cells_bool, cells_ptr, cells_slice, cells_func, cells_agg, bin_eql, bin_neq, bin_lss, bin_leq, bin_gtr, bin_geq, bin_eqlb, bin_neqb, bin_eqlp, bin_eqlp0, bin_neqp, bin_neqp0, bin_eqls, bin_eqls0, un_not, un_neg, len_s, cap_s, ex_t, cv_i, callV_f, Option.bind_some, Option.map_some, Nat.zero_add, Nat.add_zero, Nat.reduceAdd, Nat.reduceMul, size_newB, size_setB, blk_newB_self, own_newB_self, setB_setB, List.getElem?_toArray, List.getElem?_cons_zero, List.getElem?_cons_succ, List.length_cons, List.length_nil, List.all_cons, List.all_nil, isCell_int, isCell_bool, isCell_ptr, isCell_slice, isCell_func, Bool.and_true, Bool.and_self, and_self, if_true, List.size_toArray, and_true, true_and, Nat.reduceLeDiff, Nat.le_refl, Bool.not_true, Bool.not_false, Bool.true_and, Bool.false_and, Bool.and_false, Int.reduceBNe, Int.reduceBEq, Int.reduceLT, Int.reduceLE, decide_true, decide_false]
      exact bad K5 e5 (if_neg fun h => hf h.2)
  · try simp only [bnd_some, brV_t, brV_f, brG_t, brG_f, newE_u, pickE_t, pickE_f, nilV_p, faV_p, cells_int, cells_bool, cells_ptr, cells_slice, cells_func, cells_agg, bin_eql, bin_neq, bin_lss, bin_leq, bin_gtr, bin_geq, bin_eqlb, bin_neqb, bin_eqlp, bin_eqlp0, bin_neqp, bin_neqp0, bin_eqls, bin_eqls0, un_not, un_neg, len_s, cap_s, ex_t, cv_i, callV_f, Option.bind_some, Option.map_some, Nat.zero_add, Nat.add_zero, Nat.reduceAdd, Nat.reduceMul, size_newB, size_setB, blk_newB_self, own_newB_self, setB_setB, List.getElem?_toArray, List.getElem?_cons_zero, List.getElem?_cons_succ, List.length_cons, List.length_nil, List.all_cons, List.all_nil, isCell_int, isCell_bool, isCell_ptr, isCell_slice, isCell_func, Bool.and_true, Bool.and_self, and_self, if_true, List.size_toArray, and_true, true_and, Nat.reduceLeDiff, Nat.le_refl, Bool.not_true, Bool.not_false, Bool.true_and, Bool.false_and, Bool.and_false, Int.reduceBNe, Int.reduceBEq, Int.reduceLT, Int.reduceLE, decide_true, decide_false, hce]
    exact bad K5 e5 (if_neg fun h => by omega)
end Go.Hc

/- The period. -/
import Derived.Test.YtbchcnmghcmaoaaS10B
set_option linter.unusedSimpArgs false
set_option linter.unusedVariables false
namespace Go.Hc
open Go

theorem st_box {t : TypeId} {K : Heap} {z f : Value} (hf : f.cells = #[f]) (hc : isCell f = true) : stE 1 (.pointer (some ⟨K.size, 0, none⟩)) f (newB K t #[z]) = some (setB (newB K t #[z]) K.size #[f]) := by
  rw [stE_p, hf, if_pos (show (#[f] : Array Value).size = 1 from rfl), wrA_b, own_newB_self]
  simp [hc, splice]
/-- what a store into a new box brings -/
theorem box_new {K : Heap} {t : TypeId} {c c' : Array Value} : Ext [] K (setB (newB K t c) K.size c') ∧ own (setB (newB K t c) K.size c') K.size = some c' ∧ (setB (newB K t c) K.size c').size = K.size + 1 :=
  ⟨((Ext.refl _ _).newB _ _).setB _ _ (Or.inr (Nat.le_refl _)), own_setB_same own_newB_self, by rw [size_setB, size_newB]⟩
theorem pairs_ev {H K0 : Heap} {v a : Value} {first : Int} {R : Value → Heap → Prop} (e0 : Ext [] H K0) (hv : v.cells = #[v]) (ha : a.cells = #[a])
    (hR : ∀ K x3 x4 x5 x7 x8, Ext [] K0 K → (∀ x ∈ [x3, x4, x5, x7, x8], K0.size ≤ x) → PairsAt H v a first x3 x4 x5 x7 x8 K → R (.func (.func N.persist_pairs_3) #[] #[ptr x3, ptr x7, ptr x8]) K) : EvF P N.persist_pairs #[v, a, iv first] K0 R := by
  refine z25_ev _ _ _ _ _ ?_
  simp only [z25_g9, persist_pairs]
  try simp only [bnd_some, brV_t, brV_f, brG_t, brG_f, newE_u, pickE_t, pickE_f, nilV_p, faV_p, cells_int, cells_bool, cells_ptr, cells_slice, cells_func, cells_agg, bin_eql, bin_neq, bin_lss, bin_leq, bin_gtr, bin_geq, bin_eqlb, bin_neqb, bin_eqlp, bin_eqlp0, bin_neqp, bin_neqp0, bin_eqls, bin_eqls0, un_not, un_neg, len_s, cap_s, ex_t, cv_i, callV_f, Option.bind_some, Option.map_some, Nat.zero_add, Nat.add_zero, Nat.reduceAdd, Nat.reduceMul, size_newB, size_setB, blk_newB_self, own_newB_self, setB_setB, List.getElem?_toArray, List.getElem?_cons_zero, List.getElem?_cons_succ, List.length_cons, List.length_nil, List.all_cons, List.all_nil, isCell_int, isCell_bool, isCell_ptr, isCell_slice, isCell_func, Bool.and_true, Bool.and_self, and_self, if_true, List.size_toArray, and_true, true_and, Nat.reduceLeDiff, Nat.le_refl, Bool.not_true, Bool.not_false, Bool.true_and, Bool.false_and, Bool.and_false, Int.reduceBNe, Int.reduceBEq, Int.reduceLT, Int.reduceLE, decide_true, decide_false, hv, ha]
  generalize hK1 : newB K0 _ _ = K1
  have s1 : K1.size = K0.size + 1 := by rw [← hK1, size_newB]
  have e1 : Ext [] K0 K1 := by rw [← hK1]; exact (Ext.refl _ _).newB _ _
  have q3 : own K1 K0.size = some #[v] := by rw [← hK1]; exact own_newB_self
  generalize hK2 : newB K1 _ _ = K2
  have s2 : K2.size = K1.size + 1 := by rw [← hK2, size_newB]
  have e2 : Ext [] K1 K2 := by rw [← hK2]; exact (Ext.refl _ _).newB _ _
  have q4 : own K2 (K0.size + 1) = some #[a] := by rw [← hK2, ← s1]; exact own_newB_self
  generalize hK3 : newB K2 _ _ = K3
  have e3 : Ext [] K2 K3 := by rw [← hK3]; exact (Ext.refl _ _).newB _ _
  have q5 : own K3 (K0.size + 1 + 1) = some #[iv first] := by rw [← hK3, ← s1, ← s2]; exact own_newB_self
  simp only [z25_g10]
  try simp only [bnd_some, brV_t, brV_f, brG_t, brG_f, newE_u, pickE_t, pickE_f, nilV_p, faV_p, cells_int, cells_bool, cells_ptr, cells_slice, cells_func, cells_agg, bin_eql, bin_neq, bin_lss, bin_leq, bin_gtr, bin_geq, bin_eqlb, bin_neqb, bin_eqlp, bin_eqlp0, bin_neqp, bin_neqp0, bin_eqls, bin_eqls0, un_not, un_neg, len_s, cap_s, ex_t, cv_i, callV_f, Option.bind_some, Option.map_some, Nat.zero_add, Nat.add_zero, Nat.reduceAdd, Nat.reduceMul, size_newB, size_setB, blk_newB_self, own_newB_self, setB_setB, List.getElem?_toArray, List.getElem?_cons_zero, List.getElem?_cons_succ, List.length_cons, List.length_nil, List.all_cons, List.all_nil, isCell_int, isCell_bool, isCell_ptr, isCell_slice, isCell_func, Bool.and_true, Bool.and_self, and_self, if_true, List.size_toArray, and_true, true_and, Nat.reduceLeDiff, Nat.le_refl, Bool.not_true, Bool.not_false, Bool.true_and, Bool.false_and, Bool.and_false, Int.reduceBNe, Int.reduceBEq, Int.reduceLT, Int.reduceLE, decide_true, decide_false, st_box (f := .func _ _ _) rfl rfl]
  generalize hK4 : setB (newB K3 _ _) _ _ = K4
  have e4 : Ext [] K3 K4 := by rw [← hK4]; exact box_new.1
  have q7 : own K4 K3.size = some #[.func (.func N.persist_pairs_1) #[] #[ptr (K0.size + 1 + 1)]] := by rw [← hK4]; exact box_new.2.1
  simp only [z25_g11]
  try simp only [bnd_some, brV_t, brV_f, brG_t, brG_f, newE_u, pickE_t, pickE_f, nilV_p, faV_p, cells_int, cells_bool, cells_ptr, cells_slice, cells_func, cells_agg, bin_eql, bin_neq, bin_lss, bin_leq, bin_gtr, bin_geq, bin_eqlb, bin_neqb, bin_eqlp, bin_eqlp0, bin_neqp, bin_neqp0, bin_eqls, bin_eqls0, un_not, un_neg, len_s, cap_s, ex_t, cv_i, callV_f, Option.bind_some, Option.map_some, Nat.zero_add, Nat.add_zero, Nat.reduceAdd, Nat.reduceMul, size_newB, size_setB, blk_newB_self, own_newB_self, setB_setB, List.getElem?_toArray, List.getElem?_cons_zero, List.getElem?_cons_succ, List.length_cons, List.length_nil, List.all_cons, List.all_nil, isCell_int, isCell_bool, isCell_ptr, isCell_slice, isCell_func, Bool.and_true, Bool.and_self, and_self, if_true, List.size_toArray, and_true, true_and, Nat.reduceLeDiff, Nat.le_refl, Bool.not_true, Bool.not_false, Bool.true_and, Bool.false_and, Bool.and_false, Int.reduceBNe, Int.reduceBEq, Int.reduceLT, Int.reduceLE, decide_true, decide_false, st_box (f := .func _ _ _) rfl rfl]
  generalize hK5 : setB (newB K4 _ _) _ _ = K5
  have e5 : Ext [] K4 K5 := by rw [← hK5]; exact box_new.1
  have q8 : own K5 K4.size = some #[.func (.func N.persist_pairs_2) #[] #[ptr (K0.size + 1)]] := by rw [← hK5]; exact box_new.2.1
  simp only [z25_g12]
  have e45 := e4.trans e5
  have e35 := e3.trans e45
  have e25 := e2.trans e35
  exact hR K5 K0.size (K0.size + 1) (K0.size + 1 + 1) K3.size K4.size (e1.trans e25) (by have := e3.size; have := e4.size; simp; omega) ⟨e0.trans (e1.trans e25), e25.own q3 (by simp), e35.own q4 (by simp), e45.own q5 (by simp), e5.own q7 (by simp), q8⟩

/-- the period, from, to, is -/
abbrev Per := Int × Int × Int × Bool
def keepS (s : Per) (a b : Pkt) : Per := if s.2.2.2 = false ∨ s.1 < b.time - a.time then (b.time - a.time, a.num, b.num, true) else s
def KeepAt (c : Nat) (s : Per) (K : Heap) : Prop := own K c = some #[iv s.1] ∧ own K (c + 1) = some #[iv s.2.1] ∧ own K (c + 2) = some #[iv s.2.2.1] ∧ own K (c + 3) = some #[.bool s.2.2.2]
def cells4 (c : Nat) : List Nat := [c, c + 1, c + 2, c + 3]
theorem KeepAt.ext {c : Nat} {s : Per} {K K' : Heap} {S : List Nat} (h : KeepAt c s K) (he : Ext S K K') (hS : ∀ b ∈ cells4 c, b ∉ S) : KeepAt c s K' :=
  ⟨he.own h.1 (hS _ (by simp [cells4])), he.own h.2.1 (hS _ (by simp [cells4])), he.own h.2.2.1 (hS _ (by simp [cells4])), he.own h.2.2.2 (hS _ (by simp [cells4]))⟩
theorem KeepAt.lt {c : Nat} {s : Per} {K : Heap} (h : KeepAt c s K) : c + 3 < K.size := own_lt h.2.2.2
theorem keep_ev {H : Heap} {c : Nat} {s : Per} {a b : Pkt} {R : Value → Heap → Prop} (hk : KeepAt c s H) (ha : okPk a) (hb : okPk b)
    (hR : ∀ H', Ext (cells4 c) H H' → KeepAt c (keepS s a b) H' → R (.tuple #[]) H') : EvF P N.persist_Period_1 #[pv a, pv b, ptr (c + 3), ptr c, ptr (c + 1), ptr (c + 2)] H R := by
  refine z24_ev _ _ _ _ _ _ _ _ ?_
  have hlt := hk.lt
  have w1 : IntKind.i64.wrap (b.time - a.time) = b.time - a.time := wrap_in (by obtain ⟨_, _, _, _⟩ := ha; obtain ⟨_, _, _, _⟩ := hb; omega)
  simp only [persist_Period_1, z24_g9, z24_g10]
  try simp only [bnd_some, brV_t, brV_f, brG_t, brG_f, newE_u, pickE_t, pickE_f, nilV_p, faV_p, cells_int, cells_bool, cells_ptr, cells_slice, cells_func, cells_agg, bin_eql, bin_neq, bin_lss, bin_leq, bin_gtr, bin_geq, bin_eqlb, bin_neqb, bin_eqlp, bin_eqlp0, bin_neqp, bin_neqp0, bin_eqls, bin_eqls0, un_not, un_neg, len_s, cap_s, ex_t, cv_i, callV_f, Option.bind_some, Option.map_some, Nat.zero_add, Nat.add_zero, Nat.reduceAdd, Nat.reduceMul, size_newB, size_setB, blk_newB_self, own_newB_self, setB_setB, List.getElem?_toArray, List.getElem?_cons_zero, List.getElem?_cons_succ, List.length_cons, List.length_nil, List.all_cons, List.all_nil, isCell_int, isCell_bool, isCell_ptr, isCell_slice, isCell_func, Bool.and_true, Bool.and_self, and_self, if_true, List.size_toArray, and_true, true_and, Nat.reduceLeDiff, Nat.le_refl, Bool.not_true, Bool.not_false, Bool.true_and, Bool.false_and, Bool.and_false, Int.reduceBNe, Int.reduceBEq, Int.reduceLT, Int.reduceLE, decide_true, decide_false]
  generalize hK1 : newB H _ _ = K1
  have s1 : K1.size = H.size + 1 := by rw [← hK1, size_newB]
  have e1 : Ext [] H K1 := by rw [← hK1]; exact (Ext.refl _ _).newB _ _
  have qa : own K1 H.size = some (pktC a) := by rw [← hK1]; exact own_newB_self
  generalize hK2 : newB K1 _ _ = K2
  have e2 : Ext [] K1 K2 := by rw [← hK2]; exact (Ext.refl _ _).newB _ _
  have qb : own K2 (H.size + 1) = some (pktC b) := by rw [← hK2, ← s1]; exact own_newB_self
  have qa' := e2.own qa (by simp)
  have eK := e1.trans e2
  have k2 := hk.ext eK (by simp)
  obtain ⟨p6, p7, p8, p9⟩ := k2
  simp only [z24_g11]
  try simp only [bnd_some, brV_t, brV_f, brG_t, brG_f, newE_u, pickE_t, pickE_f, nilV_p, faV_p, cells_int, cells_bool, cells_ptr, cells_slice, cells_func, cells_agg, bin_eql, bin_neq, bin_lss, bin_leq, bin_gtr, bin_geq, bin_eqlb, bin_neqb, bin_eqlp, bin_eqlp0, bin_neqp, bin_neqp0, bin_eqls, bin_eqls0, un_not, un_neg, len_s, cap_s, ex_t, cv_i, callV_f, Option.bind_some, Option.map_some, Nat.zero_add, Nat.add_zero, Nat.reduceAdd, Nat.reduceMul, size_newB, size_setB, blk_newB_self, own_newB_self, setB_setB, List.getElem?_toArray, List.getElem?_cons_zero, List.getElem?_cons_succ, List.length_cons, List.length_nil, List.all_cons, List.all_nil, isCell_int, isCell_bool, isCell_ptr, isCell_slice, isCell_func, Bool.and_true, Bool.and_self, and_self, if_true, List.size_toArray, and_true, true_and, Nat.reduceLeDiff, Nat.le_refl, Bool.not_true, Bool.not_false, Bool.true_and, Bool.false_and, Bool.and_false, Int.reduceBNe, Int.reduceBEq, Int.reduceLT, Int.reduceLE, decide_true, decide_false, ldE_f, own_blk qa', own_blk qb, pktC_1, bin_sub, w1, own_blk p6, own_blk p9]
  have upd : ((s.2.2.2 = false ∨ s.1 < b.time - a.time)) → z24_g12 (fun H => R (.tuple #[]) H) (ptr (c + 3)) (ptr c) (ptr (c + 1)) (ptr (c + 2)) (ptr H.size) (ptr (H.size + 1)) (iv (b.time - a.time)) K2 := fun hc => by
    simp only [z24_g12]
    have n1 : c ≠ H.size := by omega
    have n2 : c ≠ H.size + 1 := by omega
    have n3 : c + 1 ≠ H.size := by omega
    have n4 : c + 1 ≠ H.size + 1 := by omega
    have n5 : c + 2 ≠ H.size := by omega
    have n6 : c + 2 ≠ H.size + 1 := by omega
    have z : ∀ x : Value, (#[x] : Array Value).size = 1 := fun _ => rfl
    have hs : keepS s a b = (b.time - a.time, a.num, b.num, true) := if_pos hc
    have st : ∀ {K : Heap} {x : Nat} {u y : Value} {k : Heap → Prop}, own K x = some #[u] → y.cells = #[y] → isCell y = true → k (setB K x #[y]) → bnd (stE 1 (.pointer (some ⟨x, 0, none⟩)) y K) k := fun {K x u y k} ho hy hcy hk => by
      rw [stE_p, hy, if_pos (show (#[y] : Array Value).size = 1 from rfl), wrA_b, ho]
      simpa [hcy, splice, bnd] using hk
    try simp only [bnd_some, brV_t, brV_f, brG_t, brG_f, newE_u, pickE_t, pickE_f, nilV_p, faV_p, cells_int, cells_bool, cells_ptr, cells_slice, cells_func, cells_agg, bin_eql, bin_neq, bin_lss, bin_leq, bin_gtr, bin_geq, bin_eqlb, bin_neqb, bin_eqlp, bin_eqlp0, bin_neqp, bin_neqp0, bin_eqls, bin_eqls0, un_not, un_neg, len_s, cap_s, ex_t, cv_i, callV_f, Option.bind_some, Option.map_some, Nat.zero_add, Nat.add_zero, Nat.reduceAdd, Nat.reduceMul, size_newB, size_setB, blk_newB_self, own_newB_self, setB_setB, List.getElem?_toArray, List.getElem?_cons_zero, List.getElem?_cons_succ, List.length_cons, List.length_nil, List.all_cons, List.all_nil, isCell_int, isCell_bool, isCell_ptr, isCell_slice, isCell_func, Bool.and_true, Bool.and_self, and_self, if_true, List.size_toArray, and_true, true_and, Nat.reduceLeDiff, Nat.le_refl, Bool.not_true, Bool.not_false, Bool.true_and, Bool.false_and, Bool.and_false, Int.reduceBNe, Int.reduceBEq, Int.reduceLT, Int.reduceLE, decide_true, decide_false, ldE_f, own_blk qa', own_blk qb, pktC_0]
    refine st p6 rfl rfl ?_
    generalize hL1 : setB K2 c _ = L1
    have f1 : Ext [c] K2 L1 := by rw [← hL1]; exact (Ext.refl _ _).setB _ _ (Or.inl (by simp))
    have g6 : own L1 c = some #[iv (b.time - a.time)] := by rw [← hL1]; exact own_setB_same p6
    have g7 := f1.own p7 (by simp)
    have g8 := f1.own p8 (by simp)
    have g9 := f1.own p9 (by simp)
    have ga := f1.own qa' (by simp; omega)
    have gb := f1.own qb (by simp; omega)
    try simp only [bnd_some, brV_t, brV_f, brG_t, brG_f, newE_u, pickE_t, pickE_f, nilV_p, faV_p, cells_int, cells_bool, cells_ptr, cells_slice, cells_func, cells_agg, bin_eql, bin_neq, bin_lss, bin_leq, bin_gtr, bin_geq, bin_eqlb, bin_neqb, bin_eqlp, bin_eqlp0, bin_neqp, bin_neqp0, bin_eqls, bin_eqls0, un_not, un_neg, len_s, cap_s, ex_t, cv_i, callV_f, Option.bind_some, Option.map_some, Nat.zero_add, Nat.add_zero, Nat.reduceAdd, Nat.reduceMul, size_newB, size_setB, blk_newB_self, own_newB_self, setB_setB, List.getElem?_toArray, List.getElem?_cons_zero, List.getElem?_cons_succ, List.length_cons, List.length_nil, List.all_cons, List.all_nil, isCell_int, isCell_bool, isCell_ptr, isCell_slice, isCell_func, Bool.and_true, Bool.and_self, and_self, if_true, List.size_toArray, and_true, true_and, Nat.reduceLeDiff, Nat.le_refl, Bool.not_true, Bool.not_false, Bool.true_and, Bool.false_and, Bool.and_false, Int.reduceBNe, Int.reduceBEq, Int.reduceLT, Int.reduceLE, decide_true, decide_false, ldE_f, own_blk ga, own_blk gb, pktC_0]
    refine st g7 rfl rfl ?_
    generalize hL2 : setB L1 (c + 1) _ = L2
    have f2 : Ext [c + 1] L1 L2 := by rw [← hL2]; exact (Ext.refl _ _).setB _ _ (Or.inl (by simp))
    have h7 : own L2 (c + 1) = some #[iv a.num] := by rw [← hL2]; exact own_setB_same g7
    have h6 := f2.own g6 (by simp)
    have h8 := f2.own g8 (by simp)
    have h9 := f2.own g9 (by simp)
    have hb' := f2.own gb (by simp; omega)
    try simp only [bnd_some, brV_t, brV_f, brG_t, brG_f, newE_u, pickE_t, pickE_f, nilV_p, faV_p, cells_int, cells_bool, cells_ptr, cells_slice, cells_func, cells_agg, bin_eql, bin_neq, bin_lss, bin_leq, bin_gtr, bin_geq, bin_eqlb, bin_neqb, bin_eqlp, bin_eqlp0, bin_neqp, bin_neqp0, bin_eqls, bin_eqls0, un_not, un_neg, len_s, cap_s, ex_t, cv_i, callV_f, Option.bind_some, Option.map_some, Nat.zero_add, Nat.add_zero, Nat.reduceAdd, Nat.reduceMul, size_newB, size_setB, blk_newB_self, own_newB_self, setB_setB, List.getElem?_toArray, List.getElem?_cons_zero, List.getElem?_cons_succ, List.length_cons, List.length_nil, List.all_cons, List.all_nil, isCell_int, isCell_bool, isCell_ptr, isCell_slice, isCell_func, Bool.and_true, Bool.and_self, and_self, if_true, List.size_toArray, and_true, true_and, Nat.reduceLeDiff, Nat.le_refl, Bool.not_true, Bool.not_false, Bool.true_and, Bool.false_and, Bool.and_false, Int.reduceBNe, Int.reduceBEq, Int.reduceLT, Int.reduceLE, decide_true, decide_false, ldE_f, own_blk hb', pktC_0]
    refine st h8 rfl rfl ?_
    generalize hL3 : setB L2 (c + 2) _ = L3
    have f3 : Ext [c + 2] L2 L3 := by rw [← hL3]; exact (Ext.refl _ _).setB _ _ (Or.inl (by simp))
    have i8 : own L3 (c + 2) = some #[iv b.num] := by rw [← hL3]; exact own_setB_same h8
    have i6 := f3.own h6 (by simp)
    have i7 := f3.own h7 (by simp)
    have i9 := f3.own h9 (by simp)
    refine st i9 rfl rfl ?_
    generalize hL4 : setB L3 (c + 3) _ = L4
    have f4 : Ext [c + 3] L3 L4 := by rw [← hL4]; exact (Ext.refl _ _).setB _ _ (Or.inl (by simp))
    have j9 : own L4 (c + 3) = some #[.bool true] := by rw [← hL4]; exact own_setB_same i9
    have mm : ∀ x ∈ cells4 c, ∀ {A B : Heap}, Ext [x] A B → Ext (cells4 c) A B := fun x hx A B h => h.mono (by simp; exact .inl hx)
    refine hR L4 ?_ ?_
    · exact (eK.mono (by simp)).trans ((mm c (by simp [cells4]) f1).trans ((mm (c + 1) (by simp [cells4]) f2).trans ((mm (c + 2) (by simp [cells4]) f3).trans (mm (c + 3) (by simp [cells4]) f4))))
    · rw [hs]
      exact ⟨f4.own i6 (by simp), f4.own i7 (by simp), f4.own i8 (by simp), j9⟩
  have skip : ¬ (s.2.2.2 = false ∨ s.1 < b.time - a.time) → R (.tuple #[]) K2 := fun hc => by
    refine hR K2 (eK.mono (by simp)) ?_
    have hs : keepS s a b = s := if_neg hc
    rw [hs]
    exact ⟨p6, p7, p8, p9⟩
  refine brV_i (fun c1 => ?_) (fun c1 => ?_)
  · try simp only [bnd_some, brV_t, brV_f, brG_t, brG_f, newE_u, pickE_t, pickE_f, nilV_p, faV_p, cells_int, cells_bool, cells_ptr, cells_slice, cells_func, cells_agg, bin_eql, bin_neq, bin_lss, bin_leq, bin_gtr, bin_geq, bin_eqlb, bin_neqb, bin_eqlp, bin_eqlp0, bin_neqp, bin_neqp0, bin_eqls, bin_eqls0, un_not, un_neg, len_s, cap_s, ex_t, cv_i, callV_f, Option.bind_some, Option.map_some, Nat.zero_add, Nat.add_zero, Nat.reduceAdd, Nat.reduceMul, size_newB, size_setB, blk_newB_self, own_newB_self, setB_setB, List.getElem?_toArray, List.getElem?_cons_zero, List.getElem?_cons_succ, List.length_cons, List.length_nil, List.all_cons, List.all_nil, isCell_int, isCell_bool, isCell_ptr, isCell_slice, isCell_func, Bool.and_true, Bool.and_self, and_self, if_true, List.size_toArray, and_true, true_and, Nat.reduceLeDiff, Nat.le_refl, Bool.not_true, Bool.not_false, Bool.true_and, Bool.false_and, Bool.and_false, Int.reduceBNe, Int.reduceBEq, Int.reduceLT, Int.reduceLE, decide_true, decide_false]
    exact upd (.inl (by simpa using c1))
  · try simp only [bnd_some, brV_t, brV_f, brG_t, brG_f, newE_u, pickE_t, pickE_f, nilV_p, faV_p, cells_int, cells_bool, cells_ptr, cells_slice, cells_func, cells_agg, bin_eql, bin_neq, bin_lss, bin_leq, bin_gtr, bin_geq, bin_eqlb, bin_neqb, bin_eqlp, bin_eqlp0, bin_neqp, bin_neqp0, bin_eqls, bin_eqls0, un_not, un_neg, len_s, cap_s, ex_t, cv_i, callV_f, Option.bind_some, Option.map_some, Nat.zero_add, Nat.add_zero, Nat.reduceAdd, Nat.reduceMul, size_newB, size_setB, blk_newB_self, own_newB_self, setB_setB, List.getElem?_toArray, List.getElem?_cons_zero, List.getElem?_cons_succ, List.length_cons, List.length_nil, List.all_cons, List.all_nil, isCell_int, isCell_bool, isCell_ptr, isCell_slice, isCell_func, Bool.and_true, Bool.and_self, and_self, if_true, List.size_toArray, and_true, true_and, Nat.reduceLeDiff, Nat.le_refl, Bool.not_true, Bool.not_false, Bool.true_and, Bool.false_and, Bool.and_false, Int.reduceBNe, Int.reduceBEq, Int.reduceLT, Int.reduceLE, decide_true, decide_false, ldE_f, own_blk p6]
    refine brV_d (fun c2 => ?_) (fun c2 => ?_)
    · exact upd (.inr (by omega))
    · exact skip (by simp at c1; simp [c1]; omega)
def perS (rs : List Rng) (first : Int) (l : List Pkt) : Per := outerF keepS (pairOK rs first) l (0, 0, 0, false)
/-- the period of a list -/
def period (rs : List Rng) (first : Int) (l : List Pkt) : Per := if checkE l = 0 ∧ 0 ≤ first ∧ first ≤ 9007199254740991 then perS rs first l else (0, 0, 0, false)
def perV (s : Per) : Value := .tuple #[iv s.1, iv s.2.1, iv s.2.2.1, .bool s.2.2.2]
end Go.Hc

/- Lists of ranges: slices.Replace, Delete. -/
import Derived.Test.YtbchcnmghcmaoaaS04A
set_option linter.unusedSimpArgs false
set_option linter.unusedVariables false
namespace Go.Hc
open Go

/-- a slice that shows one range, in a block of its own -/
theorem one_src {H : Heap} {w : Value} {T : List Nat} {x : Rng} (hw : OwnL rngE H w T [x]) : ∃ wb wc, w = .slice (some ⟨wb, 0, none⟩) 1 wc ∧ T = [wb] ∧ Src 2 H w 1 (fun _ => rngC x) := by
  obtain ⟨wb, wc, rfl⟩ : ∃ b cap, w = .slice (some ⟨b, 0, none⟩) 1 cap := by
    generalize hx : [x] = m at hw
    cases hw with
    | nil => simp at hx
    | mk => subst hx; exact ⟨_, _, rfl⟩
  obtain ⟨_, rfl, hwc, _, fw, hwb, hfw⟩ := hw.blk
  refine ⟨wb, wc, rfl, rfl, ?_⟩
  have := Sub.src (sz := 2) (b := wb) (d := 0) (n := 1) (v := .slice (some ⟨wb, 0, none⟩) 1 wc) ⟨_, _, rfl, .inl rfl⟩ hwb (by simpa using hwc) (fun i hi => by
    have : i = 0 := by omega
    subst this; rw [hfw 0 (by simp)]; exact rngE.cell _) (Nat.le_refl _)
  obtain ⟨a1, a2, a3, a4, a5⟩ := this
  refine ⟨a1, a2, a3, fun p hp => ?_, fun _ _ => rngE.cell x⟩
  obtain ⟨cs, q1, q2⟩ := a4 p hp
  exact ⟨cs, q1, q2.congr fun j hj => by
    have : j = 0 := by omega
    subst this; exact hfw 0 (by simp)⟩
theorem OwnL.whole {A : Type} {E : Enc A} {H : Heap} {v : Value} {S : List Nat} {l : List A} (h : OwnL E H v S l) : v = .slice none 0 0 ∧ l = [] ∧ S = [] ∨ ∃ b cap, v = .slice (some ⟨b, 0, none⟩) l.length cap ∧ S = [b] := by
  cases h with
  | nil => exact .inl ⟨rfl, rfl, rfl⟩
  | mk => exact .inr ⟨_, _, rfl, rfl⟩
theorem cut_list {l : List Rng} {x : Rng} {i j : Nat} {f g : Nat → Array Value} (hf : ∀ i (h : i < l.length), f i = rngE.c l[i]) (hij : i ≤ j) (hj : j ≤ l.length)
    (g1 : ∀ k, k < i → g k = f k) (g2 : g i = rngC x) (g3 : ∀ k, i + 1 ≤ k → k < i + 1 + (l.length - j) → g k = f (k - (i + 1) + j)) :
    ∀ k (hk : k < (l.take i ++ x :: l.drop j).length), g k = rngE.c ((l.take i ++ x :: l.drop j)[k]) := by
  intro k hk
  have hlen : (l.take i ++ x :: l.drop j).length = i + 1 + (l.length - j) := by simp; omega
  rw [hlen] at hk
  rcases Nat.lt_trichotomy k i with h | h | h
  · rw [List.getElem_append_left (by simp; omega), g1 k h, hf k (by omega)]; simp
  · subst h; rw [List.getElem_append_right (by simp; omega), g2]
    have e : k - (l.take k).length = 0 := by simp; omega
    simp only [e, List.getElem_cons_zero]; rfl
  · rw [List.getElem_append_right (by simp; omega), g3 k (by omega) hk, hf _ (by omega)]
    have e : k - (l.take i).length = (k - 1 - i) + 1 := by simp; omega
    simp only [e, List.getElem_cons_succ, List.getElem_drop]
    congr 2; omega

theorem Replace_ev {H : Heap} {v w : Value} {S T : List Nat} {l : List Rng} {x : Rng} {i j : Nat} {R : Value → Heap → Prop} (hv : OwnL rngE H v S l) (hw : OwnL rngE H w T [x]) (hd : ∀ b ∈ T, b ∉ S) (hij : i ≤ j) (hj : j ≤ l.length) (hs : l.length ≤ 1000000)
    (hR : ∀ v' S' H', Ext S H H' → (∀ b ∈ S', b ∈ S ∨ H.size ≤ b) → OwnL rngE H' v' S' (l.take i ++ x :: l.drop j) → R v' H') : EvF P N.slices_Replace_Range #[v, iv i, iv j, w] H R := by
  refine z38_ev _ _ _ _ _ _ ?_
  have hwl : lenV w = some (.int .i64 1) := hw.len
  have hsl : ∃ q, sliceV 2 v (some (iv i)) (some (iv j)) = some q := by
    rcases hv.whole with ⟨rfl, rfl, _⟩ | ⟨b, cap, rfl, _⟩
    · have h1 : j = 0 := by simpa using hj
      have h2 : i = 0 := by omega
      subst h1; subst h2; exact ⟨_, rfl⟩
    · obtain ⟨hn, hS, hc, hm, f, hb, hf⟩ := hv.blk
      obtain ⟨o, ho, _⟩ := sub_mk (sz := 2) (b := b) (bound_i (d := 0) (hi := j) (k := .i64) rfl hij) (bound_i (d := l.length) (hi := cap) (k := .i64) (rfl : (j : Int) = j) (by omega)) ⟨hij, by omega⟩
      exact ⟨_, ho⟩
  obtain ⟨q, hq⟩ := hsl
  by_cases heq : i = j
  · subst heq
    simp only [slices_Replace_Range, z38_g96, z38_g97, z38_g98, z38_g99]
    try simp only [bnd_some, brV_t, brV_f, brG_t, brG_f, newE_u, pickE_t, pickE_f, nilV_p, faV_p, cells_int, cells_bool, cells_ptr, cells_slice, cells_func, cells_agg, bin_eql, bin_neq, bin_lss, bin_leq, bin_gtr, bin_geq, bin_eqlb, bin_neqb, bin_eqlp, bin_eqlp0, bin_neqp, bin_neqp0, bin_eqls, bin_eqls0, un_not, un_neg, len_s, cap_s, ex_t, cv_i, callV_f, Option.bind_some, Option.map_some, Nat.zero_add, Nat.add_zero, Nat.reduceAdd, Nat.reduceMul, size_newB, size_setB, blk_newB_self, own_newB_self, setB_setB, List.getElem?_toArray, List.getElem?_cons_zero, List.getElem?_cons_succ, List.length_cons, List.length_nil, List.all_cons, List.all_nil, isCell_int, isCell_bool, isCell_ptr, isCell_slice, isCell_func, Bool.and_true, Bool.and_self, and_self, if_true, List.size_toArray, and_true, true_and, Nat.reduceLeDiff, Nat.le_refl, Bool.not_true, Bool.not_false, Bool.true_and, Bool.false_and, Bool.and_false, Int.reduceBNe, Int.reduceBEq, Int.reduceLT, Int.reduceLE, decide_true, decide_false, hq, beq_self_eq_true]
    exact Insert_ev hv hw hd hj hs hR
  · obtain ⟨b, cap, rfl, rfl⟩ : ∃ b cap, v = .slice (some ⟨b, 0, none⟩) l.length cap ∧ S = [b] := by
      rcases hv.whole with ⟨rfl, rfl, _⟩ | h
      · simp at hj; omega
      · exact h
    obtain ⟨wb, wc, rfl, rfl, hsrc⟩ := one_src hw
    obtain ⟨_, _, hc, hm, f, hb, hf⟩ := hv.blk
    have hne : wb ≠ b := by simpa using hd
    have cellR : ∀ j < l.length, (f j).all isCell = true := fun j hj => by rw [hf j hj]; exact rngE.cell _
    have h2 : ((i : Int) == (j : Int)) = false := by simp; omega
    obtain ⟨o1, q1, p1⟩ := sub_mk (sz := 2) (b := b) (n := l.length) (cap := cap) (lo := none) (bound_n 0 i) (bound_i (d := l.length) (hi := cap) (k := .i64) (rfl : (i : Int) = (i : Nat)) (by omega)) ⟨by omega, by omega⟩
    have o10 : o1 = 0 := by omega
    subst o10
    simp only [Nat.sub_zero] at q1
    have hext : ∀ {H'}, Ext [b] H H' → Src 2 H' (.slice (some ⟨wb, 0, none⟩) 1 wc) 1 (fun _ => rngC x) := fun he => hsrc.ext he (fun b' o s n c hb' => by cases hb'; simpa using hne)
    simp only [slices_Replace_Range, z38_g96, z38_g97, z38_g98, z38_g100]
    try simp only [bnd_some, brV_t, brV_f, brG_t, brG_f, newE_u, pickE_t, pickE_f, nilV_p, faV_p, cells_int, cells_bool, cells_ptr, cells_slice, cells_func, cells_agg, bin_eql, bin_neq, bin_lss, bin_leq, bin_gtr, bin_geq, bin_eqlb, bin_neqb, bin_eqlp, bin_eqlp0, bin_neqp, bin_neqp0, bin_eqls, bin_eqls0, un_not, un_neg, len_s, cap_s, ex_t, cv_i, callV_f, Option.bind_some, Option.map_some, Nat.zero_add, Nat.add_zero, Nat.reduceAdd, Nat.reduceMul, size_newB, size_setB, blk_newB_self, own_newB_self, setB_setB, List.getElem?_toArray, List.getElem?_cons_zero, List.getElem?_cons_succ, List.length_cons, List.length_nil, List.all_cons, List.all_nil, isCell_int, isCell_bool, isCell_ptr, isCell_slice, isCell_func, Bool.and_true, Bool.and_self, and_self, if_true, List.size_toArray, and_true, true_and, Nat.reduceLeDiff, Nat.le_refl, Bool.not_true, Bool.not_false, Bool.true_and, Bool.false_and, Bool.and_false, Int.reduceBNe, Int.reduceBEq, Int.reduceLT, Int.reduceLE, decide_true, decide_false, hq, h2, hv.len]
    refine brV_i (fun hjn => ?_) (fun hjn => ?_)
    · have hjn : j = l.length := by
        have h3 : (j : Int) = l.length := by simpa using hjn
        omega
      subst hjn
      simp only [z38_g101]
      try simp only [bnd_some, brV_t, brV_f, brG_t, brG_f, newE_u, pickE_t, pickE_f, nilV_p, faV_p, cells_int, cells_bool, cells_ptr, cells_slice, cells_func, cells_agg, bin_eql, bin_neq, bin_lss, bin_leq, bin_gtr, bin_geq, bin_eqlb, bin_neqb, bin_eqlp, bin_eqlp0, bin_neqp, bin_neqp0, bin_eqls, bin_eqls0, un_not, un_neg, len_s, cap_s, ex_t, cv_i, callV_f, Option.bind_some, Option.map_some, Nat.zero_add, Nat.add_zero, Nat.reduceAdd, Nat.reduceMul, size_newB, size_setB, blk_newB_self, own_newB_self, setB_setB, List.getElem?_toArray, List.getElem?_cons_zero, List.getElem?_cons_succ, List.length_cons, List.length_nil, List.all_cons, List.all_nil, isCell_int, isCell_bool, isCell_ptr, isCell_slice, isCell_func, Bool.and_true, Bool.and_self, and_self, if_true, List.size_toArray, and_true, true_and, Nat.reduceLeDiff, Nat.le_refl, Bool.not_true, Bool.not_false, Bool.true_and, Bool.false_and, Bool.and_false, Int.reduceBNe, Int.reduceBEq, Int.reduceLT, Int.reduceLE, decide_true, decide_false, q1]
      refine app_blk (sz := 2) hb hsrc (by omega) fun H1 e1 z1 hB1 => ?_
      have fin : ∀ g : Nat → Array Value, (∀ k, k ≤ i → g k = if i ≤ k ∧ k < i + 1 then rngC x else f k) → ∀ k (hk : k < (l.take i ++ x :: l.drop l.length).length), g k = rngE.c ((l.take i ++ x :: l.drop l.length)[k]) := fun g hg =>
        cut_list hf hij hj (fun k hk => by rw [hg k (by omega), if_neg (by omega)]) (by rw [hg i (by omega), if_pos (by omega)]) (fun k h1 h2 => by omega)
      simp only [z38_g106, z38_g107, z38_s102, z38_g103]
      try simp only [bnd_some, brV_t, brV_f, brG_t, brG_f, newE_u, pickE_t, pickE_f, nilV_p, faV_p, cells_int, cells_bool, cells_ptr, cells_slice, cells_func, cells_agg, bin_eql, bin_neq, bin_lss, bin_leq, bin_gtr, bin_geq, bin_eqlb, bin_neqb, bin_eqlp, bin_eqlp0, bin_neqp, bin_neqp0, bin_eqls, bin_eqls0, un_not, un_neg, len_s, cap_s, ex_t, cv_i, callV_f, Option.bind_some, Option.map_some, Nat.zero_add, Nat.add_zero, Nat.reduceAdd, Nat.reduceMul, size_newB, size_setB, blk_newB_self, own_newB_self, setB_setB, List.getElem?_toArray, List.getElem?_cons_zero, List.getElem?_cons_succ, List.length_cons, List.length_nil, List.all_cons, List.all_nil, isCell_int, isCell_bool, isCell_ptr, isCell_slice, isCell_func, Bool.and_true, Bool.and_self, and_self, if_true, List.size_toArray, and_true, true_and, Nat.reduceLeDiff, Nat.le_refl, Bool.not_true, Bool.not_false, Bool.true_and, Bool.false_and, Bool.and_false, Int.reduceBNe, Int.reduceBEq, Int.reduceLT, Int.reduceLE, decide_true, decide_false]
      refine brV_d (fun hlt => ?_) (fun hlt => ?_)
      · have hlt : i + 1 < l.length := by omega
        obtain ⟨o2, q2, p2⟩ := sub_mk (sz := 2) (b := b) (n := l.length) (cap := cap) (bound_i (d := 0) (hi := l.length) (k := .i64) (rfl : ((i + 1 : Nat) : Int) = (i + 1 : Nat)) (by omega)) (bound_n l.length cap) ⟨by omega, by omega⟩
        try simp only [bnd_some, brV_t, brV_f, brG_t, brG_f, newE_u, pickE_t, pickE_f, nilV_p, faV_p, cells_int, cells_bool, cells_ptr, cells_slice, cells_func, cells_agg, bin_eql, bin_neq, bin_lss, bin_leq, bin_gtr, bin_geq, bin_eqlb, bin_neqb, bin_eqlp, bin_eqlp0, bin_neqp, bin_neqp0, bin_eqls, bin_eqls0, un_not, un_neg, len_s, cap_s, ex_t, cv_i, callV_f, Option.bind_some, Option.map_some, Nat.zero_add, Nat.add_zero, Nat.reduceAdd, Nat.reduceMul, size_newB, size_setB, blk_newB_self, own_newB_self, setB_setB, List.getElem?_toArray, List.getElem?_cons_zero, List.getElem?_cons_succ, List.length_cons, List.length_nil, List.all_cons, List.all_nil, isCell_int, isCell_bool, isCell_ptr, isCell_slice, isCell_func, Bool.and_true, Bool.and_self, and_self, if_true, List.size_toArray, and_true, true_and, Nat.reduceLeDiff, Nat.le_refl, Bool.not_true, Bool.not_false, Bool.true_and, Bool.false_and, Bool.and_false, Int.reduceBNe, Int.reduceBEq, Int.reduceLT, Int.reduceLE, decide_true, decide_false, q2]
        refine clr_blk (sz := 2) rngZ hB1 ⟨_, _, rfl, p2⟩ (by omega) fun H2 e2 z2 hB2 => ?_
        refine hR _ [b] H2 (e1.trans e2) (by simp) (OwnL.of_blk hB2 (by simp; omega) (by simp; omega) (by simp; omega) (fin _ fun k hk => ?_))
        rw [if_neg (by omega)]
      · refine hR _ [b] H1 e1 (by simp) (OwnL.of_blk hB1 (by simp; omega) (by simp; omega) (by simp; omega) (fin _ fun k hk => rfl))
    · have hjn : j < l.length := by have : (j : Int) ≠ l.length := by simpa using hjn
                                    omega
      have w1 : IntKind.i64.wrap ((i : Int) + 1) = ((i + 1 : Nat) : Int) := by rw [wrap_in (by omega)]; omega
      have w2 : IntKind.i64.wrap (((i + 1 : Nat) : Int) + ((l.length - j : Nat) : Int)) = ((i + 1 + (l.length - j) : Nat) : Int) := by rw [wrap_in (by omega)]; omega
      obtain ⟨o2, q2, p2⟩ := sub_mk (sz := 2) (b := b) (n := l.length) (cap := cap) (bound_i (d := 0) (hi := l.length) (k := .i64) (rfl : (j : Int) = (j : Nat)) hj) (bound_n l.length cap) ⟨by omega, by omega⟩
      obtain ⟨o3, q3, p3⟩ := sub_mk (sz := 2) (b := b) (n := l.length) (cap := cap) (lo := none) (bound_n 0 (i + 1 + (l.length - j))) (bound_i (d := l.length) (hi := cap) (k := .i64) (rfl : ((i + 1 + (l.length - j) : Nat) : Int) = (i + 1 + (l.length - j) : Nat)) (by omega)) ⟨by omega, by omega⟩
      have o30 : o3 = 0 := by omega
      subst o30
      simp only [Nat.sub_zero] at q3
      simp only [z38_g108, z38_g109, z38_g114, z38_g115, z38_g116, z38_g117, z38_g118, z38_g119]
      try simp only [bnd_some, brV_t, brV_f, brG_t, brG_f, newE_u, pickE_t, pickE_f, nilV_p, faV_p, cells_int, cells_bool, cells_ptr, cells_slice, cells_func, cells_agg, bin_eql, bin_neq, bin_lss, bin_leq, bin_gtr, bin_geq, bin_eqlb, bin_neqb, bin_eqlp, bin_eqlp0, bin_neqp, bin_neqp0, bin_eqls, bin_eqls0, un_not, un_neg, len_s, cap_s, ex_t, cv_i, callV_f, Option.bind_some, Option.map_some, Nat.zero_add, Nat.add_zero, Nat.reduceAdd, Nat.reduceMul, size_newB, size_setB, blk_newB_self, own_newB_self, setB_setB, List.getElem?_toArray, List.getElem?_cons_zero, List.getElem?_cons_succ, List.length_cons, List.length_nil, List.all_cons, List.all_nil, isCell_int, isCell_bool, isCell_ptr, isCell_slice, isCell_func, Bool.and_true, Bool.and_self, and_self, if_true, List.size_toArray, and_true, true_and, Nat.reduceLeDiff, Nat.le_refl, Bool.not_true, Bool.not_false, Bool.true_and, Bool.false_and, Bool.and_false, Int.reduceBNe, Int.reduceBEq, Int.reduceLT, Int.reduceLE, decide_true, decide_false, bin_add, q1, hwl, w1, q2, w2]
      refine brV_d (fun hbig => ?_) (fun _ => ?_)
      · omega
      try simp only [bnd_some, brV_t, brV_f, brG_t, brG_f, newE_u, pickE_t, pickE_f, nilV_p, faV_p, cells_int, cells_bool, cells_ptr, cells_slice, cells_func, cells_agg, bin_eql, bin_neq, bin_lss, bin_leq, bin_gtr, bin_geq, bin_eqlb, bin_neqb, bin_eqlp, bin_eqlp0, bin_neqp, bin_neqp0, bin_eqls, bin_eqls0, un_not, un_neg, len_s, cap_s, ex_t, cv_i, callV_f, Option.bind_some, Option.map_some, Nat.zero_add, Nat.add_zero, Nat.reduceAdd, Nat.reduceMul, size_newB, size_setB, blk_newB_self, own_newB_self, setB_setB, List.getElem?_toArray, List.getElem?_cons_zero, List.getElem?_cons_succ, List.length_cons, List.length_nil, List.all_cons, List.all_nil, isCell_int, isCell_bool, isCell_ptr, isCell_slice, isCell_func, Bool.and_true, Bool.and_self, and_self, if_true, List.size_toArray, and_true, true_and, Nat.reduceLeDiff, Nat.le_refl, Bool.not_true, Bool.not_false, Bool.true_and, Bool.false_and, Bool.and_false, Int.reduceBNe, Int.reduceBEq, Int.reduceLT, Int.reduceLE, decide_true, decide_false, bin_add, q3, hwl, w1]
      refine brV_d (fun _ => ?_) (fun hno => ?_)
      case refine_2 => omega
      obtain ⟨o4, q4, p4⟩ := sub_mk (sz := 2) (b := b) (n := i + 1 + (l.length - j)) (cap := cap) (bound_i (d := 0) (hi := i + 1 + (l.length - j)) (k := .i64) (rfl : (i : Int) = (i : Nat)) (by omega)) (bound_n (i + 1 + (l.length - j)) cap) ⟨by omega, by omega⟩
      obtain ⟨o5, q5, p5⟩ := sub_mk (sz := 2) (b := b) (n := i + 1 + (l.length - j)) (cap := cap) (bound_i (d := 0) (hi := i + 1 + (l.length - j)) (k := .i64) (rfl : ((i + 1 : Nat) : Int) = (i + 1 : Nat)) (by omega)) (bound_n (i + 1 + (l.length - j)) cap) ⟨by omega, by omega⟩
      obtain ⟨o6, q6, p6⟩ := sub_mk (sz := 2) (b := b) (n := l.length) (cap := cap) (bound_i (d := 0) (hi := l.length) (k := .i64) (rfl : ((i + 1 + (l.length - j) : Nat) : Int) = (i + 1 + (l.length - j) : Nat)) (by omega)) (bound_n l.length cap) ⟨by omega, by omega⟩
      try simp only [bnd_some, brV_t, brV_f, brG_t, brG_f, newE_u, pickE_t, pickE_f, nilV_p, faV_p, cells_int, cells_bool, cells_ptr, cells_slice, cells_func, cells_agg, bin_eql, bin_neq, bin_lss, bin_leq, bin_gtr, bin_geq, bin_eqlb, bin_neqb, bin_eqlp, bin_eqlp0, bin_neqp, bin_neqp0, bin_eqls, bin_eqls0, un_not, un_neg, len_s, cap_s, ex_t, cv_i, callV_f, Option.bind_some, Option.map_some, Nat.zero_add, Nat.add_zero, Nat.reduceAdd, Nat.reduceMul, size_newB, size_setB, blk_newB_self, own_newB_self, setB_setB, List.getElem?_toArray, List.getElem?_cons_zero, List.getElem?_cons_succ, List.length_cons, List.length_nil, List.all_cons, List.all_nil, isCell_int, isCell_bool, isCell_ptr, isCell_slice, isCell_func, Bool.and_true, Bool.and_self, and_self, if_true, List.size_toArray, and_true, true_and, Nat.reduceLeDiff, Nat.le_refl, Bool.not_true, Bool.not_false, Bool.true_and, Bool.false_and, Bool.and_false, Int.reduceBNe, Int.reduceBEq, Int.reduceLT, Int.reduceLE, decide_true, decide_false, q4]
      have m1 : Nat.min 1 (i + 1 + (l.length - j) - i) = 1 := by rw [nmin]; split <;> omega
      have m2 : Nat.min (l.length - j) (i + 1 + (l.length - j) - (i + 1)) = l.length - j := by rw [nmin]; split <;> omega
      refine cpy_blk hb ⟨_, _, rfl, p4⟩ hsrc (Nat.min_le_left _ _) (by rw [m1]; omega) fun H1 e1 z1 hB1 => ?_
      rw [m1] at hB1
      try simp only [bnd_some, brV_t, brV_f, brG_t, brG_f, newE_u, pickE_t, pickE_f, nilV_p, faV_p, cells_int, cells_bool, cells_ptr, cells_slice, cells_func, cells_agg, bin_eql, bin_neq, bin_lss, bin_leq, bin_gtr, bin_geq, bin_eqlb, bin_neqb, bin_eqlp, bin_eqlp0, bin_neqp, bin_neqp0, bin_eqls, bin_eqls0, un_not, un_neg, len_s, cap_s, ex_t, cv_i, callV_f, Option.bind_some, Option.map_some, Nat.zero_add, Nat.add_zero, Nat.reduceAdd, Nat.reduceMul, size_newB, size_setB, blk_newB_self, own_newB_self, setB_setB, List.getElem?_toArray, List.getElem?_cons_zero, List.getElem?_cons_succ, List.length_cons, List.length_nil, List.all_cons, List.all_nil, isCell_int, isCell_bool, isCell_ptr, isCell_slice, isCell_func, Bool.and_true, Bool.and_self, and_self, if_true, List.size_toArray, and_true, true_and, Nat.reduceLeDiff, Nat.le_refl, Bool.not_true, Bool.not_false, Bool.true_and, Bool.false_and, Bool.and_false, Int.reduceBNe, Int.reduceBEq, Int.reduceLT, Int.reduceLE, decide_true, decide_false, bin_add, hwl, w1, q5, q2]
      have hsrc2 := Sub.src (H := H1) (q := l.length - j) (v := .slice (some ⟨b, o2, none⟩) (l.length - j) (cap - j)) ⟨_, _, rfl, p2⟩ hB1 (by omega) (fun k hk => by rw [if_neg (by omega)]; exact cellR _ (by omega)) (Nat.le_refl _)
      refine cpy_blk hB1 ⟨_, _, rfl, p5⟩ hsrc2 (by rw [m2]; exact Nat.le_refl _) (by rw [m2]; omega) fun H2 e2 z2 hB2 => ?_
      rw [m2] at hB2
      try simp only [bnd_some, brV_t, brV_f, brG_t, brG_f, newE_u, pickE_t, pickE_f, nilV_p, faV_p, cells_int, cells_bool, cells_ptr, cells_slice, cells_func, cells_agg, bin_eql, bin_neq, bin_lss, bin_leq, bin_gtr, bin_geq, bin_eqlb, bin_neqb, bin_eqlp, bin_eqlp0, bin_neqp, bin_neqp0, bin_eqls, bin_eqls0, un_not, un_neg, len_s, cap_s, ex_t, cv_i, callV_f, Option.bind_some, Option.map_some, Nat.zero_add, Nat.add_zero, Nat.reduceAdd, Nat.reduceMul, size_newB, size_setB, blk_newB_self, own_newB_self, setB_setB, List.getElem?_toArray, List.getElem?_cons_zero, List.getElem?_cons_succ, List.length_cons, List.length_nil, List.all_cons, List.all_nil, isCell_int, isCell_bool, isCell_ptr, isCell_slice, isCell_func, Bool.and_true, Bool.and_self, and_self, if_true, List.size_toArray, and_true, true_and, Nat.reduceLeDiff, Nat.le_refl, Bool.not_true, Bool.not_false, Bool.true_and, Bool.false_and, Bool.and_false, Int.reduceBNe, Int.reduceBEq, Int.reduceLT, Int.reduceLE, decide_true, decide_false, q6]
      refine clr_blk (sz := 2) rngZ hB2 ⟨_, _, rfl, p6⟩ (by omega) fun H3 e3 z3 hB3 => ?_
      refine hR _ [b] H3 ((e1.trans e2).trans e3) (by simp) (OwnL.of_blk hB3 (by simp; omega) (by simp; omega) (by simp; omega) (cut_list hf hij hj (fun k hk => ?_) ?_ (fun k h1 h2 => ?_)))
      · rw [if_neg (by omega), if_neg (by omega), if_neg (by omega)]
      · rw [if_neg (by omega), if_neg (by omega), if_pos (by omega)]
      · rw [if_neg (by omega), if_pos (by omega), if_neg (by omega)]; congr 1; omega

end Go.Hc

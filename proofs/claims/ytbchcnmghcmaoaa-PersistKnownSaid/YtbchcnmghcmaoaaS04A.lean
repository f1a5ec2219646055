/- Lists of ranges: what the functions of slices do. -/
import Derived.Test.YtbchcnmghcmaoaaS00A
import Derived.Test.YtbchcnmghcmaoaaS04L
set_option linter.unusedSimpArgs false
set_option linter.unusedVariables false
namespace Go.Hc
open Go

def rngC (p : Rng) : Array Value := #[iv p.1, iv p.2]
def rngE : Enc Rng := ⟨2, #[iv 0, iv 0], rngC, fun _ => rfl, rfl, fun _ => by simp [rngC, isCell], by simp [isCell]⟩
theorem rngZ : rngE.z.size = 2 ∧ rngE.z.all isCell = true := ⟨rfl, by simp [rngE, isCell]⟩

theorem Insert_ev {H : Heap} {v w : Value} {S T : List Nat} {l : List Rng} {x : Rng} {i : Nat} {R : Value → Heap → Prop} (hv : OwnL rngE H v S l) (hw : OwnL rngE H w T [x]) (hd : ∀ b ∈ T, b ∉ S) (hi : i ≤ l.length) (hs : l.length ≤ 1000000)
    (hR : ∀ v' S' H', Ext S H H' → (∀ b ∈ S', b ∈ S ∨ H.size ≤ b) → OwnL rngE H' v' S' (l.take i ++ x :: l.drop i) → R v' H') : EvF P N.slices_Insert_Range #[v, iv i, w] H R := by
  refine z61_ev _ _ _ _ _ ?_
  have hw0 := hw.show
  have h1 : ((1 : Int) == 0) = false := rfl
  have hwl : lenV w = some (.int .i64 1) := hw.len
  by_cases hin : i = l.length
  · subst hin
    have e : v = .slice none 0 0 ∧ l = [] ∨ ∃ b cap, v = .slice (some ⟨b, 0, none⟩) l.length cap := by
      cases hv with
      | nil => exact .inl ⟨rfl, rfl⟩
      | mk => exact .inr ⟨_, _, rfl⟩
    have hsl : ∃ q, sliceV 2 v (some (iv l.length)) none = some q := by
      rcases e with ⟨rfl, rfl⟩ | ⟨b, cap, rfl⟩
      · exact ⟨_, rfl⟩
      · obtain ⟨hn, hS, hc, hm, f, hb, hf⟩ := hv.blk
        obtain ⟨o, ho, _⟩ := sub_mk (sz := 2) (b := b) (bound_i (d := 0) (hi := l.length) (k := .i64) rfl (Nat.le_refl l.length)) (bound_n l.length cap) ⟨Nat.le_refl _, hc⟩
        exact ⟨_, ho⟩
    obtain ⟨q, hq⟩ := hsl
    simp only [z61_g51, z61_g52, z61_g53, z61_g54, z61_g55, z61_g56, z61_g57, z61_g58, z61_g59, z61_g60, z61_g61, z61_g62, z61_g63, z61_g64, z61_g65, slices_Insert_Range]
    try simp only [bnd_some, brV_t, brV_f, brG_t, brG_f, newE_u, pickE_t, pickE_f, nilV_p, faV_p, cells_int, cells_bool, cells_ptr, cells_slice, cells_func, cells_agg, bin_eql, bin_neq, bin_lss, bin_leq, bin_gtr, bin_geq, bin_eqlb, bin_neqb, bin_eqlp, bin_eqlp0, bin_neqp, bin_neqp0, bin_eqls, bin_eqls0, un_not, un_neg, len_s, cap_s, ex_t, cv_i, callV_f, Option.bind_some, Option.map_some, Nat.zero_add, Nat.add_zero, Nat.reduceAdd, Nat.reduceMul, size_newB, size_setB, blk_newB_self, own_newB_self, setB_setB, List.getElem?_toArray, List.getElem?_cons_zero, List.getElem?_cons_succ, List.length_cons, List.length_nil, List.all_cons, List.all_nil, isCell_int, isCell_bool, isCell_ptr, isCell_slice, isCell_func, Bool.and_true, Bool.and_self, and_self, if_true, List.size_toArray, and_true, true_and, Nat.reduceLeDiff, Nat.le_refl, Bool.not_true, Bool.not_false, Bool.true_and, Bool.false_and, Bool.and_false, Int.reduceBNe, Int.reduceBEq, Int.reduceLT, Int.reduceLE, decide_true, decide_false, bin_add, bin_sub, hq, hwl, hv.len, h1, beq_self_eq_true]
    refine appE_l (E := rngE) hv hw0 (by simp; omega) (by decide) (by simp; omega) fun v' S' H' he hS' ho => ?_
    exact hR v' S' H' he hS' (by simpa using ho)
  · have hlt : i < l.length := by omega
    obtain ⟨b, cap, rfl⟩ : ∃ b cap, v = .slice (some ⟨b, 0, none⟩) l.length cap := by
      cases hv with
      | nil => simp at hlt
      | mk => exact ⟨_, _, rfl⟩
    obtain ⟨wb, wc, rfl⟩ : ∃ b cap, w = .slice (some ⟨b, 0, none⟩) 1 cap := by
      generalize hx : [x] = m at hw
      cases hw with
      | nil => simp at hx
      | mk => subst hx; exact ⟨_, _, rfl⟩
    obtain ⟨_, rfl, hc, hm, f, hb, hf⟩ := hv.blk
    obtain ⟨_, rfl, hwc, _, fw, hwb, hfw⟩ := hw.blk
    have hne : wb ≠ b := by simpa using hd
    have hsrc : Src 2 H (.slice (some ⟨wb, 0, none⟩) 1 wc) 1 (fun _ => rngC x) := by
      have := Sub.src (sz := 2) (b := wb) (d := 0) (n := 1) (v := .slice (some ⟨wb, 0, none⟩) 1 wc) ⟨_, _, rfl, .inl rfl⟩ hwb (by simpa using hwc) (fun i hi => by
        have : i = 0 := by omega
        subst this; rw [hfw 0 (by simp)]; exact rngE.cell _) (Nat.le_refl _)
      obtain ⟨a1, a2, a3, a4, a5⟩ := this
      refine ⟨a1, a2, a3, fun p hp => ?_, fun _ _ => rngE.cell x⟩
      obtain ⟨cs, q1, q2⟩ := a4 p hp
      exact ⟨cs, q1, q2.congr fun j hj => by
        have : j = 0 := by omega
        subst this; exact hfw 0 (by simp)⟩
    have h2 : ((i : Int) == (l.length : Int)) = false := by simp; omega
    have w1 : IntKind.i64.wrap ((l.length : Int) + 1) = ((l.length + 1 : Nat) : Int) := by rw [wrap_in (by omega)]; omega
    have w2 : IntKind.i64.wrap ((i : Int) + 1) = ((i + 1 : Nat) : Int) := by rw [wrap_in (by omega)]; omega
    have w3 : IntKind.i64.wrap (((l.length + 1 : Nat) : Int) - (i : Int)) = ((l.length + 1 - i : Nat) : Int) := by rw [wrap_in (by omega)]; omega
    obtain ⟨o1, q1, p1⟩ := sub_mk (sz := 2) (b := b) (n := l.length) (cap := cap) (bound_i (d := 0) (hi := l.length) (k := .i64) (rfl : (i : Int) = (i : Nat)) hi) (bound_n l.length cap) ⟨hi, hc⟩
    have cellR : ∀ j < l.length, (f j).all isCell = true := fun j hj => by rw [hf j hj]; exact rngE.cell _
    have hsrc2 : ∀ {H'}, Blk 2 H' b cap f → Src 2 H' (.slice (some ⟨b, o1, none⟩) (l.length - i) (cap - i)) (l.length - i) (fun j => f (i + j)) := fun hb => Sub.src ⟨_, _, rfl, p1⟩ hb (by omega) (fun j hj => cellR _ (by omega)) (Nat.le_refl _)
    have hcap : capV (.slice (some ⟨b, 0, none⟩) l.length cap) = some (.int .i64 cap) := rfl
    have fin : ∀ (g : Nat → Array Value), (∀ j, j < i → g j = f j) → g i = rngC x → (∀ j, i + 1 ≤ j → j < l.length + 1 → g j = f (j - 1)) → ∀ j (hj : j < (l.take i ++ x :: l.drop i).length), g j = rngE.c ((l.take i ++ x :: l.drop i)[j]) := by
      intro g g1 g2 g3 j hj
      have hlen : (l.take i ++ x :: l.drop i).length = l.length + 1 := by simp; omega
      rw [hlen] at hj
      rcases Nat.lt_trichotomy j i with h | h | h
      · rw [List.getElem_append_left (by simp; omega), g1 j h, hf j (by omega)]; simp
      · subst h; rw [List.getElem_append_right (by simp; omega), g2]; have e : j - (l.take j).length = 0 := by simp; omega
        simp only [e, List.getElem_cons_zero]; rfl
      · rw [List.getElem_append_right (by simp; omega), g3 j (by omega) hj, hf (j - 1) (by omega)]
        have e : j - (l.take i).length = (j - 1 - i) + 1 := by simp; omega
        simp only [e, List.getElem_cons_succ, List.getElem_drop]
        congr 2; omega
    simp only [z61_g51, z61_g52, z61_g53, z61_g54, z61_g55, z61_g56, z61_g57, z61_g58, z61_g59, slices_Insert_Range]
    try simp only [bnd_some, brV_t, brV_f, brG_t, brG_f, newE_u, pickE_t, pickE_f, nilV_p, faV_p, cells_int, cells_bool, cells_ptr, cells_slice, cells_func, cells_agg, bin_eql, bin_neq, bin_lss, bin_leq, bin_gtr, bin_geq, bin_eqlb, bin_neqb, bin_eqlp, bin_eqlp0, bin_neqp, bin_neqp0, bin_eqls, bin_eqls0, un_not, un_neg, len_s, cap_s, ex_t, cv_i, callV_f, Option.bind_some, Option.map_some, Nat.zero_add, Nat.add_zero, Nat.reduceAdd, Nat.reduceMul, size_newB, size_setB, blk_newB_self, own_newB_self, setB_setB, List.getElem?_toArray, List.getElem?_cons_zero, List.getElem?_cons_succ, List.length_cons, List.length_nil, List.all_cons, List.all_nil, isCell_int, isCell_bool, isCell_ptr, isCell_slice, isCell_func, Bool.and_true, Bool.and_self, and_self, if_true, List.size_toArray, and_true, true_and, Nat.reduceLeDiff, Nat.le_refl, Bool.not_true, Bool.not_false, Bool.true_and, Bool.false_and, Bool.and_false, Int.reduceBNe, Int.reduceBEq, Int.reduceLT, Int.reduceLE, decide_true, decide_false, bin_add, bin_sub, q1, hwl, hv.len, h1, h2, w1, hcap]
    refine brV_d (fun hfull => ?_) (fun hroom => ?_)
    · obtain ⟨o2, q2, p2⟩ := sub_mk (sz := 2) (b := b) (n := l.length) (cap := cap) (lo := none) (bound_n 0 i) (bound_i (d := l.length) (hi := cap) (k := .i64) (rfl : (i : Int) = (i : Nat)) (by omega)) ⟨by omega, by omega⟩
      have o20 : o2 = 0 := by omega
      subst o20
      simp only [Nat.sub_zero] at q2
      simp only [z61_g51, z61_g52, z61_g53, z61_g54, z61_g55, z61_g56, z61_g57, z61_g58, z61_g59, z61_g60, z61_g61, z61_g62, z61_g63, z61_g64, z61_g65, z61_g66, z61_g67, z61_g68, z61_g69, z61_g70, z61_g71, slices_Insert_Range]
      try simp only [bnd_some, brV_t, brV_f, brG_t, brG_f, newE_u, pickE_t, pickE_f, nilV_p, faV_p, cells_int, cells_bool, cells_ptr, cells_slice, cells_func, cells_agg, bin_eql, bin_neq, bin_lss, bin_leq, bin_gtr, bin_geq, bin_eqlb, bin_neqb, bin_eqlp, bin_eqlp0, bin_neqp, bin_neqp0, bin_eqls, bin_eqls0, un_not, un_neg, len_s, cap_s, ex_t, cv_i, callV_f, Option.bind_some, Option.map_some, Nat.zero_add, Nat.add_zero, Nat.reduceAdd, Nat.reduceMul, size_newB, size_setB, blk_newB_self, own_newB_self, setB_setB, List.getElem?_toArray, List.getElem?_cons_zero, List.getElem?_cons_succ, List.length_cons, List.length_nil, List.all_cons, List.all_nil, isCell_int, isCell_bool, isCell_ptr, isCell_slice, isCell_func, Bool.and_true, Bool.and_self, and_self, if_true, List.size_toArray, and_true, true_and, Nat.reduceLeDiff, Nat.le_refl, Bool.not_true, Bool.not_false, Bool.true_and, Bool.false_and, Bool.and_false, Int.reduceBNe, Int.reduceBEq, Int.reduceLT, Int.reduceLE, decide_true, decide_false, bin_add, bin_sub, q2, w1, w3]
      refine appZ_new (sz := 2) (n := l.length + 1 - i) rfl hb (by omega) rfl (by omega) (by omega) (by decide) fun H1 c1 e1 z1 hc1 hc2 hB1 => ?_
      obtain ⟨o3, q3, p3⟩ := sub_mk (sz := 2) (b := H.size) (n := i + (l.length + 1 - i)) (cap := c1) (bound_i (d := 0) (hi := i + (l.length + 1 - i)) (k := .i64) (rfl : (i : Int) = (i : Nat)) (by omega)) (bound_n (i + (l.length + 1 - i)) c1) ⟨by omega, by omega⟩
      try simp only [bnd_some, brV_t, brV_f, brG_t, brG_f, newE_u, pickE_t, pickE_f, nilV_p, faV_p, cells_int, cells_bool, cells_ptr, cells_slice, cells_func, cells_agg, bin_eql, bin_neq, bin_lss, bin_leq, bin_gtr, bin_geq, bin_eqlb, bin_neqb, bin_eqlp, bin_eqlp0, bin_neqp, bin_neqp0, bin_eqls, bin_eqls0, un_not, un_neg, len_s, cap_s, ex_t, cv_i, callV_f, Option.bind_some, Option.map_some, Nat.zero_add, Nat.add_zero, Nat.reduceAdd, Nat.reduceMul, size_newB, size_setB, blk_newB_self, own_newB_self, setB_setB, List.getElem?_toArray, List.getElem?_cons_zero, List.getElem?_cons_succ, List.length_cons, List.length_nil, List.all_cons, List.all_nil, isCell_int, isCell_bool, isCell_ptr, isCell_slice, isCell_func, Bool.and_true, Bool.and_self, and_self, if_true, List.size_toArray, and_true, true_and, Nat.reduceLeDiff, Nat.le_refl, Bool.not_true, Bool.not_false, Bool.true_and, Bool.false_and, Bool.and_false, Int.reduceBNe, Int.reduceBEq, Int.reduceLT, Int.reduceLE, decide_true, decide_false, bin_add, bin_sub, q3]
      have hs1 := hsrc.ext e1 (by simp)
      refine cpy_blk hB1 ⟨_, _, rfl, p3⟩ hs1 (Nat.min_le_left _ _) (by rw [nmin]; split <;> omega) fun H2 e2 z2 hB2 => ?_
      obtain ⟨o4, q4, p4⟩ := sub_mk (sz := 2) (b := H.size) (n := i + (l.length + 1 - i)) (cap := c1) (bound_i (d := 0) (hi := i + (l.length + 1 - i)) (k := .i64) (rfl : ((i + 1 : Nat) : Int) = (i + 1 : Nat)) (by omega)) (bound_n (i + (l.length + 1 - i)) c1) ⟨by omega, by omega⟩
      try simp only [bnd_some, brV_t, brV_f, brG_t, brG_f, newE_u, pickE_t, pickE_f, nilV_p, faV_p, cells_int, cells_bool, cells_ptr, cells_slice, cells_func, cells_agg, bin_eql, bin_neq, bin_lss, bin_leq, bin_gtr, bin_geq, bin_eqlb, bin_neqb, bin_eqlp, bin_eqlp0, bin_neqp, bin_neqp0, bin_eqls, bin_eqls0, un_not, un_neg, len_s, cap_s, ex_t, cv_i, callV_f, Option.bind_some, Option.map_some, Nat.zero_add, Nat.add_zero, Nat.reduceAdd, Nat.reduceMul, size_newB, size_setB, blk_newB_self, own_newB_self, setB_setB, List.getElem?_toArray, List.getElem?_cons_zero, List.getElem?_cons_succ, List.length_cons, List.length_nil, List.all_cons, List.all_nil, isCell_int, isCell_bool, isCell_ptr, isCell_slice, isCell_func, Bool.and_true, Bool.and_self, and_self, if_true, List.size_toArray, and_true, true_and, Nat.reduceLeDiff, Nat.le_refl, Bool.not_true, Bool.not_false, Bool.true_and, Bool.false_and, Bool.and_false, Int.reduceBNe, Int.reduceBEq, Int.reduceLT, Int.reduceLE, decide_true, decide_false, bin_add, bin_sub, w2, q4, q1]
      have hbl := hb.lt
      have hb2 := (hb.ext e1 (by simp)).ext e2 (by simp; omega)
      refine cpy_blk hB2 ⟨_, _, rfl, p4⟩ (hsrc2 hb2) (by rw [nmin]; split <;> omega) (by rw [nmin]; split <;> omega) fun H3 e3 z3 hB3 => ?_
      try simp only [bnd_some, brV_t, brV_f, brG_t, brG_f, newE_u, pickE_t, pickE_f, nilV_p, faV_p, cells_int, cells_bool, cells_ptr, cells_slice, cells_func, cells_agg, bin_eql, bin_neq, bin_lss, bin_leq, bin_gtr, bin_geq, bin_eqlb, bin_neqb, bin_eqlp, bin_eqlp0, bin_neqp, bin_neqp0, bin_eqls, bin_eqls0, un_not, un_neg, len_s, cap_s, ex_t, cv_i, callV_f, Option.bind_some, Option.map_some, Nat.zero_add, Nat.add_zero, Nat.reduceAdd, Nat.reduceMul, size_newB, size_setB, blk_newB_self, own_newB_self, setB_setB, List.getElem?_toArray, List.getElem?_cons_zero, List.getElem?_cons_succ, List.length_cons, List.length_nil, List.all_cons, List.all_nil, isCell_int, isCell_bool, isCell_ptr, isCell_slice, isCell_func, Bool.and_true, Bool.and_self, and_self, if_true, List.size_toArray, and_true, true_and, Nat.reduceLeDiff, Nat.le_refl, Bool.not_true, Bool.not_false, Bool.true_and, Bool.false_and, Bool.and_false, Int.reduceBNe, Int.reduceBEq, Int.reduceLT, Int.reduceLE, decide_true, decide_false, bin_add, bin_sub]
      have m1 : Nat.min 1 (i + (l.length + 1 - i) - i) = 1 := by rw [nmin]; split <;> omega
      have m2 : Nat.min (l.length - i) (i + (l.length + 1 - i) - (i + 1)) = l.length - i := by rw [nmin]; split <;> omega
      rw [m1, m2] at hB3
      have hE : Ext [b] H H3 := ((e1.thru e2 (by simp)).thru e3 (by simp)).mono (by simp)
      refine hR _ [H.size] H3 hE (by simp) (OwnL.of_blk hB3 (by simp; omega) (by simp; omega) (by simp; omega) (fin _ (fun j hj => ?_) ?_ (fun j hj hj2 => ?_)))
      · rw [if_neg (by omega), if_neg (by omega), if_pos hj]
      · rw [if_neg (by omega), if_pos (by omega)]
      · rw [if_pos (by omega)]; congr 1; omega
    · obtain ⟨o2, q2, p2⟩ := sub_mk (sz := 2) (b := b) (n := l.length) (cap := cap) (lo := none) (bound_n 0 (l.length + 1)) (bound_i (d := l.length) (hi := cap) (k := .i64) (rfl : ((l.length + 1 : Nat) : Int) = (l.length + 1 : Nat)) (by omega)) ⟨by omega, by omega⟩
      have o20 : o2 = 0 := by omega
      subst o20
      simp only [Nat.sub_zero] at q2
      obtain ⟨o3, q3, p3⟩ := sub_mk (sz := 2) (b := b) (n := l.length + 1) (cap := cap) (bound_i (d := 0) (hi := l.length + 1) (k := .i64) (rfl : ((i + 1 : Nat) : Int) = (i + 1 : Nat)) (by omega)) (bound_n (l.length + 1) (cap)) ⟨by omega, by omega⟩
      obtain ⟨o4, q4, p4⟩ := sub_mk (sz := 2) (b := b) (n := l.length + 1) (cap := cap) (bound_i (d := 0) (hi := l.length + 1) (k := .i64) (rfl : (i : Int) = (i : Nat)) (by omega)) (bound_n (l.length + 1) (cap)) ⟨by omega, by omega⟩
      simp only [z61_g51, z61_g52, z61_g53, z61_g54, z61_g55, z61_g56, z61_g57, z61_g58, z61_g59, z61_g60, z61_g61, z61_g62, z61_g63, z61_g64, z61_g65, z61_g66, z61_g67, z61_g68, z61_g69, z61_g70, z61_g71, slices_Insert_Range]
      try simp only [bnd_some, brV_t, brV_f, brG_t, brG_f, newE_u, pickE_t, pickE_f, nilV_p, faV_p, cells_int, cells_bool, cells_ptr, cells_slice, cells_func, cells_agg, bin_eql, bin_neq, bin_lss, bin_leq, bin_gtr, bin_geq, bin_eqlb, bin_neqb, bin_eqlp, bin_eqlp0, bin_neqp, bin_neqp0, bin_eqls, bin_eqls0, un_not, un_neg, len_s, cap_s, ex_t, cv_i, callV_f, Option.bind_some, Option.map_some, Nat.zero_add, Nat.add_zero, Nat.reduceAdd, Nat.reduceMul, size_newB, size_setB, blk_newB_self, own_newB_self, setB_setB, List.getElem?_toArray, List.getElem?_cons_zero, List.getElem?_cons_succ, List.length_cons, List.length_nil, List.all_cons, List.all_nil, isCell_int, isCell_bool, isCell_ptr, isCell_slice, isCell_func, Bool.and_true, Bool.and_self, and_self, if_true, List.size_toArray, and_true, true_and, Nat.reduceLeDiff, Nat.le_refl, Bool.not_true, Bool.not_false, Bool.true_and, Bool.false_and, Bool.and_false, Int.reduceBNe, Int.reduceBEq, Int.reduceLT, Int.reduceLE, decide_true, decide_false, bin_add, bin_sub, q2, w1, w2, q3]
      obtain ⟨cw, hcw, _⟩ := hwb
      obtain ⟨cb, hcb, hrb⟩ := hb
      refine z62_ev hne hcw hcb (by rw [hrb.size]; show cap * 2 ≠ 0; omega) ?_
      try simp only [bnd_some, brV_t, brV_f, brG_t, brG_f, newE_u, pickE_t, pickE_f, nilV_p, faV_p, cells_int, cells_bool, cells_ptr, cells_slice, cells_func, cells_agg, bin_eql, bin_neq, bin_lss, bin_leq, bin_gtr, bin_geq, bin_eqlb, bin_neqb, bin_eqlp, bin_eqlp0, bin_neqp, bin_neqp0, bin_eqls, bin_eqls0, un_not, un_neg, len_s, cap_s, ex_t, cv_i, callV_f, Option.bind_some, Option.map_some, Nat.zero_add, Nat.add_zero, Nat.reduceAdd, Nat.reduceMul, size_newB, size_setB, blk_newB_self, own_newB_self, setB_setB, List.getElem?_toArray, List.getElem?_cons_zero, List.getElem?_cons_succ, List.length_cons, List.length_nil, List.all_cons, List.all_nil, isCell_int, isCell_bool, isCell_ptr, isCell_slice, isCell_func, Bool.and_true, Bool.and_self, and_self, if_true, List.size_toArray, and_true, true_and, Nat.reduceLeDiff, Nat.le_refl, Bool.not_true, Bool.not_false, Bool.true_and, Bool.false_and, Bool.and_false, Int.reduceBNe, Int.reduceBEq, Int.reduceLT, Int.reduceLE, decide_true, decide_false, bin_add, bin_sub, w2, q3, q4]
      have hb : Blk 2 H b cap f := ⟨cb, hcb, hrb⟩
      have hsrc3 : Srq 2 H (.slice (some ⟨b, o4, none⟩) (l.length + 1 - i) (cap - i)) (l.length + 1 - i) (l.length - i) (fun j => f (i + j)) := Sub.src ⟨_, _, rfl, p4⟩ hb (by omega) (fun j hj => cellR _ (by omega)) (by omega)
      refine cpy_blk hb ⟨_, _, rfl, p3⟩ hsrc3 (by rw [nmin]; split <;> omega) (by rw [nmin]; split <;> omega) fun H2 e2 z2 hB2 => ?_
      try simp only [bnd_some, brV_t, brV_f, brG_t, brG_f, newE_u, pickE_t, pickE_f, nilV_p, faV_p, cells_int, cells_bool, cells_ptr, cells_slice, cells_func, cells_agg, bin_eql, bin_neq, bin_lss, bin_leq, bin_gtr, bin_geq, bin_eqlb, bin_neqb, bin_eqlp, bin_eqlp0, bin_neqp, bin_neqp0, bin_eqls, bin_eqls0, un_not, un_neg, len_s, cap_s, ex_t, cv_i, callV_f, Option.bind_some, Option.map_some, Nat.zero_add, Nat.add_zero, Nat.reduceAdd, Nat.reduceMul, size_newB, size_setB, blk_newB_self, own_newB_self, setB_setB, List.getElem?_toArray, List.getElem?_cons_zero, List.getElem?_cons_succ, List.length_cons, List.length_nil, List.all_cons, List.all_nil, isCell_int, isCell_bool, isCell_ptr, isCell_slice, isCell_func, Bool.and_true, Bool.and_self, and_self, if_true, List.size_toArray, and_true, true_and, Nat.reduceLeDiff, Nat.le_refl, Bool.not_true, Bool.not_false, Bool.true_and, Bool.false_and, Bool.and_false, Int.reduceBNe, Int.reduceBEq, Int.reduceLT, Int.reduceLE, decide_true, decide_false, bin_add, bin_sub, q4]
      refine cpy_blk hB2 ⟨_, _, rfl, p4⟩ (hsrc.ext e2 (fun b' o s n c hb' => by cases hb'; simpa using hne)) (Nat.min_le_left _ _) (by rw [nmin]; split <;> omega) fun H3 e3 z3 hB3 => ?_
      try simp only [bnd_some, brV_t, brV_f, brG_t, brG_f, newE_u, pickE_t, pickE_f, nilV_p, faV_p, cells_int, cells_bool, cells_ptr, cells_slice, cells_func, cells_agg, bin_eql, bin_neq, bin_lss, bin_leq, bin_gtr, bin_geq, bin_eqlb, bin_neqb, bin_eqlp, bin_eqlp0, bin_neqp, bin_neqp0, bin_eqls, bin_eqls0, un_not, un_neg, len_s, cap_s, ex_t, cv_i, callV_f, Option.bind_some, Option.map_some, Nat.zero_add, Nat.add_zero, Nat.reduceAdd, Nat.reduceMul, size_newB, size_setB, blk_newB_self, own_newB_self, setB_setB, List.getElem?_toArray, List.getElem?_cons_zero, List.getElem?_cons_succ, List.length_cons, List.length_nil, List.all_cons, List.all_nil, isCell_int, isCell_bool, isCell_ptr, isCell_slice, isCell_func, Bool.and_true, Bool.and_self, and_self, if_true, List.size_toArray, and_true, true_and, Nat.reduceLeDiff, Nat.le_refl, Bool.not_true, Bool.not_false, Bool.true_and, Bool.false_and, Bool.and_false, Int.reduceBNe, Int.reduceBEq, Int.reduceLT, Int.reduceLE, decide_true, decide_false]
      have m1 : Nat.min 1 (l.length + 1 - i) = 1 := by rw [nmin]; split <;> omega
      have m2 : Nat.min (l.length + 1 - i) (l.length + 1 - (i + 1)) = l.length - i := by rw [nmin]; split <;> omega
      rw [m1, m2] at hB3
      refine hR _ [b] H3 (e2.thru e3 (by simp)) (by simp) (OwnL.of_blk hB3 (by simp; omega) (by simp; omega) (by simp; omega) (fin _ (fun j hj => ?_) ?_ (fun j hj hj2 => ?_)))
      · rw [if_neg (by omega), if_neg (by omega)]
      · rw [if_pos (by omega)]
      · rw [if_neg (by omega), if_pos (by omega)]; congr 1; omega
end Go.Hc

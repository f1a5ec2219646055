/- SentRoom. -/
import Derived.Test.YtchdnhbkjfdnmaaS06Once
set_option linter.unusedSimpArgs false
set_option linter.unusedVariables false
namespace Go.Hc
open Go

theorem find_rise {p : Pkt} : ∀ {L : List Pkt} (_ : RiseL L) (_ : p ∈ L), L.find? (fun q => q.num == p.num) = some p
  | q :: L, hr, hp => by
    rcases List.mem_cons.1 hp with rfl | hp
    · simp
    · have h1 := (List.pairwise_cons.1 hr).1 p hp
      have h2 : (q.num == p.num) = false := by simp; omega
      rw [List.find?_cons, h2]
      exact find_rise (List.pairwise_cons.1 hr).2 hp
theorem Sep.log {H0 H : Heap} {Qs : List Asr} {b room : Nat} {top : Int} {L : List Pkt} (h : Sep H0 H (logA b room top L :: Qs)) :
    RiseL L ∧ (∀ p ∈ L, May p ∧ p.num ≤ top) ∧ L.length ≤ room ∧ -1 ≤ top := by
  obtain ⟨T, ⟨rb, rfl, cap, fr, sl, hl⟩, _⟩ := h.get
  exact ⟨by rw [← hl.liv]; exact hl.up.rise, hl.mayL, hl.few, hl.htop.1⟩
def AllOne (L : List Pkt) : Prop := ∀ p ∈ L, p = oneP p.num
theorem flight_one : ∀ {L : List Pkt} (_ : AllOne L), flight L = 100 * L.length
  | [], _ => rfl
  | p :: L, h => by
    have ih := flight_one (L := L) fun q hq => h q (by simp [hq])
    have hp := h p (by simp)
    have h1 : p.fl = true := by rw [hp]; rfl
    have h2 : p.size = 100 := by rw [hp]; rfl
    simp only [flight, h1, h2, ih, List.length_cons, if_true]; omega
theorem AllOne.push {L : List Pkt} {n : Int} (h : AllOne L) : AllOne (L ++ [oneP n]) := by
  intro p hp
  rcases List.mem_append.1 hp with h1 | h1
  · exact h p h1
  · simp only [List.mem_cons, List.not_mem_nil, or_false] at h1; subst h1; rfl
theorem AllOne.filter {L : List Pkt} {f : Pkt → Bool} (h : AllOne L) : AllOne (L.filter f) := fun p hp => h p (List.mem_filter.1 hp).1

theorem Room_ev {H : Heap} {v : Value} {r : Int} {l : List Int} {R : Value → Heap → Prop} (hrr : In64 r) (hv : ShowA intE H v l) (hin : ∀ x ∈ l, In64 x) (hR : ∀ H', Ext [] H H' → R (.bool true) H') :
    EvF P N.sounderlaw06_SentRoom #[iv r, v] H R := by
  refine sounderlaw06_SentRoom_ev _ _ _ _ ?_
  simp only [sounderlaw06_SentRoom_g63, sounderlaw06_SentRoom_g64, sounderlaw06_SentRoom_g65, sounderlaw06_SentRoom_g66, sounderlaw06_SentRoom_g67, sounderlaw06_SentRoom_g68, sounderlaw06_SentRoom_g70, sounderlaw06_SentRoom_g71, sounderlaw06_SentRoom_g72, sounderlaw06_SentRoom_g73, sounderlaw06_SentRoom_g74, sounderlaw06_SentRoom_g76, sounderlaw06_SentRoom_g77, sounderlaw06_SentRoom_g78, sounderlaw06_SentRoom_g79, sounderlaw06_SentRoom_g80, sounderlaw06_SentRoom_g81, sounderlaw06_SentRoom_g82, sounderlaw06_SentRoom_g83, sounderlaw06_SentRoom_g84, sounderlaw06_SentRoom_g85, sounderlaw06_SentRoom_l90, sounderlaw06_SentRoom_l94, sounderlaw06_SentRoom, sounderlaw06_SentRoom_s69, sounderlaw06_SentRoom_s75]
  refine Bring_ev hrr (by omega) ?_
  have hb := bring_r (i := r) (n := 20) (by omega)
  generalize bring r 20 = r' at hb
  have w0 : binV .int .add (.int .i64 1) (iv r') = some (iv (1 + r')) := bin_addw (by omega)
  simp only [w0, bnd_some]
  refine New_sep (Sep.nil H) (fun h => absurd ⟨by omega, by omega⟩ h) fun room b H1 hr hr1 hr2 h => ?_
  have hr20 : room ≤ 20 := by omega
  rw [hr]
  simp only [bnd_some, brV_t, brV_f, newE_u, pickE_t, pickE_f, nilV_p, faV_p, cells_int, cells_bool, cells_ptr, cells_slice, cells_func, cells_agg, bin_eql, bin_neq, bin_lss, bin_leq, bin_gtr, bin_geq, bin_eqlb, bin_neqb, bin_eqlp, bin_eqlp0, bin_neqp, bin_neqp0, bin_eqls, bin_eqls0, un_not, un_neg, len_s, ex_t, cv_i, callV_f, Option.bind_some, Option.map_some, Nat.zero_add, Nat.add_zero, Nat.reduceAdd, Nat.reduceMul, size_newB, size_setB, blk_newB_self, own_newB_self, setB_setB, List.getElem?_toArray, List.getElem?_cons_zero, List.getElem?_cons_succ, List.length_cons, List.length_nil, List.all_cons, List.all_nil, isCell_int, isCell_bool, isCell_ptr, isCell_slice, isCell_func, Bool.and_true, Bool.and_self, and_self, if_true, List.size_toArray, and_true, true_and, Nat.reduceLeDiff, Nat.le_refl, Bool.not_true, Bool.not_false, Bool.true_and, Bool.false_and, Bool.and_false, Int.reduceBNe, Int.reduceBEq, Int.reduceLT, Int.reduceLE, decide_true, decide_false]
  refine ⟨fun w7 H' => ∃ (n : Nat) (L : List Pkt), w7 = iv n ∧ n ≤ room ∧ L.length = n ∧ AllOne L ∧ Sep H H' [logA b room (n - 1) L],
    fun w _ => (match w with | Value.int _ i => (room - i).toNat | _ => 0), ⟨0, [], rfl, by omega, rfl, fun p hp => by simp at hp, h⟩, ?_⟩
  clear h
  rintro w7 H2 ⟨n, L, rfl, hn, hL, hone, h⟩
  simp only [bnd_some, brV_t, brV_f, newE_u, pickE_t, pickE_f, nilV_p, faV_p, cells_int, cells_bool, cells_ptr, cells_slice, cells_func, cells_agg, bin_eql, bin_neq, bin_lss, bin_leq, bin_gtr, bin_geq, bin_eqlb, bin_neqb, bin_eqlp, bin_eqlp0, bin_neqp, bin_neqp0, bin_eqls, bin_eqls0, un_not, un_neg, len_s, ex_t, cv_i, callV_f, Option.bind_some, Option.map_some, Nat.zero_add, Nat.add_zero, Nat.reduceAdd, Nat.reduceMul, size_newB, size_setB, blk_newB_self, own_newB_self, setB_setB, List.getElem?_toArray, List.getElem?_cons_zero, List.getElem?_cons_succ, List.length_cons, List.length_nil, List.all_cons, List.all_nil, isCell_int, isCell_bool, isCell_ptr, isCell_slice, isCell_func, Bool.and_true, Bool.and_self, and_self, if_true, List.size_toArray, and_true, true_and, Nat.reduceLeDiff, Nat.le_refl, Bool.not_true, Bool.not_false, Bool.true_and, Bool.false_and, Bool.and_false, Int.reduceBNe, Int.reduceBEq, Int.reduceLT, Int.reduceLE, decide_true, decide_false]
  refine brV_d (fun hlt => ?_) (fun hlt => ?_)
  · refine one_sep h fun H3 h => ?_
    refine Put_sep h fun H4 h => ?_
    have hp : putE room ((n : Int) - 1) L (oneP n) = 0 := by
      have h1 : May (oneP n) := may_one (by omega)
      have h2 : ¬ (oneP (n : Int)).num ≤ (n : Int) - 1 := by show ¬ (n : Int) ≤ n - 1; omega
      have h3 : L.length ≠ room := by omega
      simp [putE, h1, h2, h3]
    simp only [hp, show (oneP (n : Int)).num = n from rfl] at h ⊢
    have w1 : binV .int .add (iv n) (.int .i64 1) = some (iv ((n + 1 : Nat) : Int)) := by rw [bin_addw (by omega)]; rfl
    simp only [bnd_some, brV_t, brV_f, newE_u, pickE_t, pickE_f, nilV_p, faV_p, cells_int, cells_bool, cells_ptr, cells_slice, cells_func, cells_agg, bin_eql, bin_neq, bin_lss, bin_leq, bin_gtr, bin_geq, bin_eqlb, bin_neqb, bin_eqlp, bin_eqlp0, bin_neqp, bin_neqp0, bin_eqls, bin_eqls0, un_not, un_neg, len_s, ex_t, cv_i, callV_f, Option.bind_some, Option.map_some, Nat.zero_add, Nat.add_zero, Nat.reduceAdd, Nat.reduceMul, size_newB, size_setB, blk_newB_self, own_newB_self, setB_setB, List.getElem?_toArray, List.getElem?_cons_zero, List.getElem?_cons_succ, List.length_cons, List.length_nil, List.all_cons, List.all_nil, isCell_int, isCell_bool, isCell_ptr, isCell_slice, isCell_func, Bool.and_true, Bool.and_self, and_self, if_true, List.size_toArray, and_true, true_and, Nat.reduceLeDiff, Nat.le_refl, Bool.not_true, Bool.not_false, Bool.true_and, Bool.false_and, Bool.and_false, Int.reduceBNe, Int.reduceBEq, Int.reduceLT, Int.reduceLE, decide_true, decide_false, w1] at h ⊢
    refine ⟨⟨n + 1, L ++ [oneP n], rfl, by omega, by simp [hL], hone.push, ?_⟩, by omega⟩
    rw [show ((n + 1 : Nat) : Int) - 1 = n by omega]; exact h
  · have hnr : n = room := by omega
    rw [hnr] at h hL
    refine ⟨fun w7 w8 H' => ∃ (n i : Nat) (L : List Pkt), w7 = iv n ∧ w8 = iv i ∧ i ≤ l.length ∧ i ≤ 100 ∧ n ≤ 20 + i ∧ L.length = room ∧ AllOne L ∧ Sep H H' [logA b room (n - 1) L],
      fun _ w _ => (match w with | Value.int _ i => (100 - i).toNat | _ => 0), ⟨room, 0, L, by rw [hnr], rfl, by omega, by omega, by omega, hL, hone, h⟩, ?_⟩
    clear h hone hL hlt L
    rintro w7 w8 H3 ⟨n, i, L, rfl, rfl, hil, hi100, hn20, hL, hone, h⟩
    have hsm := hv.small
    simp only [bnd_some, brV_t, brV_f, newE_u, pickE_t, pickE_f, nilV_p, faV_p, cells_int, cells_bool, cells_ptr, cells_slice, cells_func, cells_agg, bin_eql, bin_neq, bin_lss, bin_leq, bin_gtr, bin_geq, bin_eqlb, bin_neqb, bin_eqlp, bin_eqlp0, bin_neqp, bin_neqp0, bin_eqls, bin_eqls0, un_not, un_neg, len_s, ex_t, cv_i, callV_f, Option.bind_some, Option.map_some, Nat.zero_add, Nat.add_zero, Nat.reduceAdd, Nat.reduceMul, size_newB, size_setB, blk_newB_self, own_newB_self, setB_setB, List.getElem?_toArray, List.getElem?_cons_zero, List.getElem?_cons_succ, List.length_cons, List.length_nil, List.all_cons, List.all_nil, isCell_int, isCell_bool, isCell_ptr, isCell_slice, isCell_func, Bool.and_true, Bool.and_self, and_self, if_true, List.size_toArray, and_true, true_and, Nat.reduceLeDiff, Nat.le_refl, Bool.not_true, Bool.not_false, Bool.true_and, Bool.false_and, Bool.and_false, Int.reduceBNe, Int.reduceBEq, Int.reduceLT, Int.reduceLE, decide_true, decide_false, hv.len]
    have fin : EvF P N.sounderlaw06_works #[] H3 fun v66 H => R v66 H := works_ev fun H' he => hR H' (h.only.trans he)
    refine brV_d (fun hlt => ?_) (fun hlt => ?_)
    · refine brV_d (fun hlt2 => ?_) (fun hlt2 => ?_)
      · have hi : i < l.length := by omega
        refine All_sep h fun H4 x9 h => ?_
        refine one_sep h fun H5 h => ?_
        refine Put_sep h.b1 fun H6 h => ?_
        have hp : putE room ((n : Int) - 1) L (oneP n) = 5 := by
          have h1 : May (oneP n) := may_one (by omega)
          have h2 : ¬ (oneP (n : Int)).num ≤ (n : Int) - 1 := by show ¬ (n : Int) ≤ n - 1; omega
          simp [putE, h1, h2, hL]
        simp only [hp] at h ⊢
        simp only [Int.reduceEq, if_false] at h
        obtain ⟨T, ho⟩ := h.b1.list
        have hlx : lenV x9 = some (iv room) := by rw [ho.len, hL]
        have e1 : ((room : Int) != (room : Int)) = false := by simp
        simp only [bnd_some, brV_t, brV_f, newE_u, pickE_t, pickE_f, nilV_p, faV_p, cells_int, cells_bool, cells_ptr, cells_slice, cells_func, cells_agg, bin_eql, bin_neq, bin_lss, bin_leq, bin_gtr, bin_geq, bin_eqlb, bin_neqb, bin_eqlp, bin_eqlp0, bin_neqp, bin_neqp0, bin_eqls, bin_eqls0, un_not, un_neg, len_s, ex_t, cv_i, callV_f, Option.bind_some, Option.map_some, Nat.zero_add, Nat.add_zero, Nat.reduceAdd, Nat.reduceMul, size_newB, size_setB, blk_newB_self, own_newB_self, setB_setB, List.getElem?_toArray, List.getElem?_cons_zero, List.getElem?_cons_succ, List.length_cons, List.length_nil, List.all_cons, List.all_nil, isCell_int, isCell_bool, isCell_ptr, isCell_slice, isCell_func, Bool.and_true, Bool.and_self, and_self, if_true, List.size_toArray, and_true, true_and, Nat.reduceLeDiff, Nat.le_refl, Bool.not_true, Bool.not_false, Bool.true_and, Bool.false_and, Bool.and_false, Int.reduceBNe, Int.reduceBEq, Int.reduceLT, Int.reduceLE, decide_true, decide_false, hlx, e1]
        refine Last_sep h ?_
        have w2 : binV .int .sub (iv n) (.int .i64 1) = some (iv ((n : Int) - 1)) := bin_subw (by omega)
        have e2 : ((n : Int) - 1 != (n : Int) - 1) = false := by simp
        obtain ⟨ab, ao, ac, hx, hc, hcell, _⟩ := (hv.ext h.only).ix (by decide) hi (j := i) rfl
        have hx' : ixSV 1 v (iv i) = some (.pointer (some ⟨ab, ao, none⟩)) := hx
        have hl : ldE false 1 (.pointer (some ⟨ab, ao, none⟩)) H6 = some (iv l[i]) := ld_ptr hc (by have := hcell 0 (by decide); exact this)
        simp only [bnd_some, brV_t, brV_f, newE_u, pickE_t, pickE_f, nilV_p, faV_p, cells_int, cells_bool, cells_ptr, cells_slice, cells_func, cells_agg, bin_eql, bin_neq, bin_lss, bin_leq, bin_gtr, bin_geq, bin_eqlb, bin_neqb, bin_eqlp, bin_eqlp0, bin_neqp, bin_neqp0, bin_eqls, bin_eqls0, un_not, un_neg, len_s, ex_t, cv_i, callV_f, Option.bind_some, Option.map_some, Nat.zero_add, Nat.add_zero, Nat.reduceAdd, Nat.reduceMul, size_newB, size_setB, blk_newB_self, own_newB_self, setB_setB, List.getElem?_toArray, List.getElem?_cons_zero, List.getElem?_cons_succ, List.length_cons, List.length_nil, List.all_cons, List.all_nil, isCell_int, isCell_bool, isCell_ptr, isCell_slice, isCell_func, Bool.and_true, Bool.and_self, and_self, if_true, List.size_toArray, and_true, true_and, Nat.reduceLeDiff, Nat.le_refl, Bool.not_true, Bool.not_false, Bool.true_and, Bool.false_and, Bool.and_false, Int.reduceBNe, Int.reduceBEq, Int.reduceLT, Int.reduceLE, decide_true, decide_false, w2, e2, hx', hl]
        refine Bring_ev (hin _ (List.getElem_mem hi)) (by omega) ?_
        have hb2 := bring_r (i := l[i]) (n := room) (by omega)
        generalize bring l[i] room = k at hb2
        have hk : k.toNat < L.length := by omega
        obtain ⟨bb, bo, bc, hy, hd, hdc, _⟩ := ho.show.ix (by decide) hk (j := k) (by omega)
        have hy' : ixSV 6 x9 (iv k) = some (.pointer (some ⟨bb, bo, none⟩)) := hy
        have hln : ldE false 1 (.pointer (some ⟨bb, bo, none⟩)) H6 = some (iv L[k.toNat].num) := ld_ptr hd (by have := hdc 0 (by decide); exact this)
        simp only [bnd_some, brV_t, brV_f, newE_u, pickE_t, pickE_f, nilV_p, faV_p, cells_int, cells_bool, cells_ptr, cells_slice, cells_func, cells_agg, bin_eql, bin_neq, bin_lss, bin_leq, bin_gtr, bin_geq, bin_eqlb, bin_neqb, bin_eqlp, bin_eqlp0, bin_neqp, bin_neqp0, bin_eqls, bin_eqls0, un_not, un_neg, len_s, ex_t, cv_i, callV_f, Option.bind_some, Option.map_some, Nat.zero_add, Nat.add_zero, Nat.reduceAdd, Nat.reduceMul, size_newB, size_setB, blk_newB_self, own_newB_self, setB_setB, List.getElem?_toArray, List.getElem?_cons_zero, List.getElem?_cons_succ, List.length_cons, List.length_nil, List.all_cons, List.all_nil, isCell_int, isCell_bool, isCell_ptr, isCell_slice, isCell_func, Bool.and_true, Bool.and_self, and_self, if_true, List.size_toArray, and_true, true_and, Nat.reduceLeDiff, Nat.le_refl, Bool.not_true, Bool.not_false, Bool.true_and, Bool.false_and, Bool.and_false, Int.reduceBNe, Int.reduceBEq, Int.reduceLT, Int.reduceLE, decide_true, decide_false, hy', hln]
        obtain ⟨hrise, hmay, hfew, htop⟩ := h.log
        have hmem := List.getElem_mem hk
        refine Drop_sep h fun H7 h => ?_
        rw [find_rise hrise hmem]
        simp only [opt, Option.getD_some, Option.isSome_some, bnd_some, brV_t, brV_f, newE_u, pickE_t, pickE_f, nilV_p, faV_p, cells_int, cells_bool, cells_ptr, cells_slice, cells_func, cells_agg, bin_eql, bin_neq, bin_lss, bin_leq, bin_gtr, bin_geq, bin_eqlb, bin_neqb, bin_eqlp, bin_eqlp0, bin_neqp, bin_neqp0, bin_eqls, bin_eqls0, un_not, un_neg, len_s, ex_t, cv_i, callV_f, Option.bind_some, Option.map_some, Nat.zero_add, Nat.add_zero, Nat.reduceAdd, Nat.reduceMul, size_newB, size_setB, blk_newB_self, own_newB_self, setB_setB, List.getElem?_toArray, List.getElem?_cons_zero, List.getElem?_cons_succ, List.length_cons, List.length_nil, List.all_cons, List.all_nil, isCell_int, isCell_bool, isCell_ptr, isCell_slice, isCell_func, Bool.and_true, Bool.and_self, and_self, if_true, List.size_toArray, and_true, true_and, Nat.reduceLeDiff, Nat.le_refl, Bool.not_true, Bool.not_false, Bool.true_and, Bool.false_and, Bool.and_false, Int.reduceBNe, Int.reduceBEq, Int.reduceLT, Int.reduceLE, decide_true, decide_false, pkt0_C]
        replace h := h.b1.drop
        obtain ⟨H8, hs, h⟩ := newP_sep (p := pkt0) (q := L[k.toNat]) (t := 30) h
        have hfl : ldE false 1 (.pointer (some ⟨H7.size, 4, none⟩)) H8 = some (.bool true) := by
          have h1 : L[k.toNat].fl = true := by rw [hone _ hmem]; rfl
          rw [← h1]; exact ld_ptr (own_blk h.cells) pktC_4
        simp only [bnd_some, brV_t, brV_f, newE_u, pickE_t, pickE_f, nilV_p, faV_p, cells_int, cells_bool, cells_ptr, cells_slice, cells_func, cells_agg, bin_eql, bin_neq, bin_lss, bin_leq, bin_gtr, bin_geq, bin_eqlb, bin_neqb, bin_eqlp, bin_eqlp0, bin_neqp, bin_neqp0, bin_eqls, bin_eqls0, un_not, un_neg, len_s, ex_t, cv_i, callV_f, Option.bind_some, Option.map_some, Nat.zero_add, Nat.add_zero, Nat.reduceAdd, Nat.reduceMul, size_newB, size_setB, blk_newB_self, own_newB_self, setB_setB, List.getElem?_toArray, List.getElem?_cons_zero, List.getElem?_cons_succ, List.length_cons, List.length_nil, List.all_cons, List.all_nil, isCell_int, isCell_bool, isCell_ptr, isCell_slice, isCell_func, Bool.and_true, Bool.and_self, and_self, if_true, List.size_toArray, and_true, true_and, Nat.reduceLeDiff, Nat.le_refl, Bool.not_true, Bool.not_false, Bool.true_and, Bool.false_and, Bool.and_false, Int.reduceBNe, Int.reduceBEq, Int.reduceLT, Int.reduceLE, decide_true, decide_false, hs, hfl]
        replace h := h.drop
        have hone' : AllOne (L.filter fun p => p.num != L[k.toNat].num) := hone.filter
        have hlen' := (sums_filter hrise hmem rfl).2.2
        generalize (L.filter fun p => p.num != L[k.toNat].num) = L' at h hone' hlen'
        refine one_sep h fun H9 h => ?_
        refine Put_sep h fun H10 h => ?_
        have hp2 : putE room ((n : Int) - 1) L' (oneP n) = 0 := by
          have h1 : May (oneP n) := may_one (by omega)
          have h2 : ¬ (oneP (n : Int)).num ≤ (n : Int) - 1 := by show ¬ (n : Int) ≤ n - 1; omega
          have h3 : L'.length ≠ room := by omega
          simp [putE, h1, h2, h3]
        simp only [hp2, show (oneP (n : Int)).num = n from rfl, if_true] at h ⊢
        have hL2 : (L' ++ [oneP n]).length = room := by simp; omega
        have hone2 : AllOne (L' ++ [oneP n]) := hone'.push
        generalize L' ++ [oneP n] = L2 at h hL2 hone2
        simp only [bnd_some, brV_t, brV_f, newE_u, pickE_t, pickE_f, nilV_p, faV_p, cells_int, cells_bool, cells_ptr, cells_slice, cells_func, cells_agg, bin_eql, bin_neq, bin_lss, bin_leq, bin_gtr, bin_geq, bin_eqlb, bin_neqb, bin_eqlp, bin_eqlp0, bin_neqp, bin_neqp0, bin_eqls, bin_eqls0, un_not, un_neg, len_s, ex_t, cv_i, callV_f, Option.bind_some, Option.map_some, Nat.zero_add, Nat.add_zero, Nat.reduceAdd, Nat.reduceMul, size_newB, size_setB, blk_newB_self, own_newB_self, setB_setB, List.getElem?_toArray, List.getElem?_cons_zero, List.getElem?_cons_succ, List.length_cons, List.length_nil, List.all_cons, List.all_nil, isCell_int, isCell_bool, isCell_ptr, isCell_slice, isCell_func, Bool.and_true, Bool.and_self, and_self, if_true, List.size_toArray, and_true, true_and, Nat.reduceLeDiff, Nat.le_refl, Bool.not_true, Bool.not_false, Bool.true_and, Bool.false_and, Bool.and_false, Int.reduceBNe, Int.reduceBEq, Int.reduceLT, Int.reduceLE, decide_true, decide_false]
        refine Len_sep h fun H11 h => ?_
        have e3 : ((L2.length : Int) != (room : Int)) = false := by simp [hL2]
        simp only [bnd_some, brV_t, brV_f, newE_u, pickE_t, pickE_f, nilV_p, faV_p, cells_int, cells_bool, cells_ptr, cells_slice, cells_func, cells_agg, bin_eql, bin_neq, bin_lss, bin_leq, bin_gtr, bin_geq, bin_eqlb, bin_neqb, bin_eqlp, bin_eqlp0, bin_neqp, bin_neqp0, bin_eqls, bin_eqls0, un_not, un_neg, len_s, ex_t, cv_i, callV_f, Option.bind_some, Option.map_some, Nat.zero_add, Nat.add_zero, Nat.reduceAdd, Nat.reduceMul, size_newB, size_setB, blk_newB_self, own_newB_self, setB_setB, List.getElem?_toArray, List.getElem?_cons_zero, List.getElem?_cons_succ, List.length_cons, List.length_nil, List.all_cons, List.all_nil, isCell_int, isCell_bool, isCell_ptr, isCell_slice, isCell_func, Bool.and_true, Bool.and_self, and_self, if_true, List.size_toArray, and_true, true_and, Nat.reduceLeDiff, Nat.le_refl, Bool.not_true, Bool.not_false, Bool.true_and, Bool.false_and, Bool.and_false, Int.reduceBNe, Int.reduceBEq, Int.reduceLT, Int.reduceLE, decide_true, decide_false, e3]
        refine Flight_sep h fun H12 h => ?_
        have w3 : binV .int .mul (.int .i64 100) (iv room) = some (iv (100 * (room : Int))) := by rw [bin_mul, wrap_in (by omega)]
        have e4 : (flight L2 != 100 * (room : Int)) = false := by rw [flight_one hone2, hL2]; simp
        have w4 : binV .int .add (iv n) (.int .i64 1) = some (iv ((n + 1 : Nat) : Int)) := by rw [bin_addw (by omega)]; rfl
        have w5 : binV .int .add (iv i) (.int .i64 1) = some (iv ((i + 1 : Nat) : Int)) := by rw [bin_addw (by omega)]; rfl
        simp only [bnd_some, brV_t, brV_f, newE_u, pickE_t, pickE_f, nilV_p, faV_p, cells_int, cells_bool, cells_ptr, cells_slice, cells_func, cells_agg, bin_eql, bin_neq, bin_lss, bin_leq, bin_gtr, bin_geq, bin_eqlb, bin_neqb, bin_eqlp, bin_eqlp0, bin_neqp, bin_neqp0, bin_eqls, bin_eqls0, un_not, un_neg, len_s, ex_t, cv_i, callV_f, Option.bind_some, Option.map_some, Nat.zero_add, Nat.add_zero, Nat.reduceAdd, Nat.reduceMul, size_newB, size_setB, blk_newB_self, own_newB_self, setB_setB, List.getElem?_toArray, List.getElem?_cons_zero, List.getElem?_cons_succ, List.length_cons, List.length_nil, List.all_cons, List.all_nil, isCell_int, isCell_bool, isCell_ptr, isCell_slice, isCell_func, Bool.and_true, Bool.and_self, and_self, if_true, List.size_toArray, and_true, true_and, Nat.reduceLeDiff, Nat.le_refl, Bool.not_true, Bool.not_false, Bool.true_and, Bool.false_and, Bool.and_false, Int.reduceBNe, Int.reduceBEq, Int.reduceLT, Int.reduceLE, decide_true, decide_false, w3, e4, w4, w5]
        refine ⟨⟨n + 1, i + 1, L2, rfl, rfl, by omega, by omega, by omega, hL2, hone2, ?_⟩, by omega⟩
        rw [show ((n + 1 : Nat) : Int) - 1 = n by omega]; exact h
      · exact fin
    · exact fin
end Go.Hc

/- SentSums. -/
import Derived.Test.YtchdnhbkjfdnmaaS06RowArg
set_option linter.unusedSimpArgs false
set_option linter.unusedVariables false
namespace Go.Hc
open Go

def boolE : Enc Bool := ⟨1, #[.bool false], fun b => #[.bool b], fun _ => rfl, rfl, fun _ => by simp [isCell], by simp [isCell]⟩
/-- an element of a list of ours is written -/
theorem lst_set {A : Type} {E : Enc A} {H0 H : Heap} {Qs : List Asr} {v u : Value} {l : List A} {a : A} {k : Nat} {j : Int} (h : Sep H0 H (lstA E v l :: Qs)) (hk : k < l.length) (hj : j = k) (hu : u.cells = E.c a) :
    ∃ p H', ixSV E.sz v (.int .i64 j) = some (.pointer (some p)) ∧ stE E.sz (.pointer (some p)) u H = some H' ∧ Sep H0 H' (lstA E v (l.set k a) :: Qs) := by
  obtain ⟨T, ho, hn⟩ := h.get
  replace ho : OwnL E H v T l := ho
  cases ho with
  | nil => simp at hk
  | @mk b cap c f l ho hr hc hl hm =>
    have hkc : k < cap := by omega
    have hrl := row_lt (sz := E.sz) hkc
    have hsz := hr.size
    have hlen := E.len a
    refine ⟨⟨b, 0 + k * E.sz, none⟩, setB H b (splice c (0 + k * E.sz) (E.c a).toList), ?_, ?_, ?_⟩
    · subst hj; rw [ixS_u (by omega)]; simp
    · simp only [stE_p, hu, hlen, if_true]
      rw [wrA_u ho (by simp; omega) (by have := E.cell a; rw [← Array.all_toList] at this; exact this)]
    · have hr2 := hr.set (i := k) (l := (E.c a).toList) hkc (by simp [hlen])
      have := OwnL.mk (E := E) (H := setB H b (splice c (0 + k * E.sz) (E.c a).toList)) (b := b) (cap := cap) (l := l.set k a) (own_setB_same ho) (by rw [Nat.zero_add]; exact hr2) (by simpa using hc) (fun i hi => by
        simp only [List.length_set] at hi
        by_cases hik : i = k
        · subst hik; simp
        · simp only [hik, if_false, List.getElem_set_ne (Ne.symm hik)]; exact hl i hi) (by simpa using hm)
      rw [List.length_set] at this
      exact hn (lstA E _ _) _ [b] ((Ext.refl _ _).setB _ _ (Or.inl (by simp))) this fun x hx => Or.inl hx
/-- an element of a list of ours is read -/
theorem lst_get {A : Type} {E : Enc A} {H0 H : Heap} {Qs : List Asr} {v : Value} {l : List A} {k : Nat} {j : Int} (h : Sep H0 H (lstA E v l :: Qs)) (h0 : 0 < E.sz) (hk : k < l.length) (hj : j = k) :
    ∃ b o, ixSV E.sz v (.int .i64 j) = some (.pointer (some ⟨b, o, none⟩)) ∧ ldE true E.sz (.pointer (some ⟨b, o, none⟩)) H = some (.agg (E.c l[k])) ∧
      ∀ i u, i < E.sz → (E.c l[k])[i]? = some u → ldE false 1 (.pointer (some ⟨b, o + i, none⟩)) H = some u := by
  obtain ⟨T, ho⟩ := h.list
  obtain ⟨b, o, c, hx, hc, hcell, hl⟩ := ho.show.ix h0 hk hj
  exact ⟨b, o, hx, hl, fun i u hi hu => ld_ptr hc (by rw [hcell i hi]; exact hu)⟩
theorem lst_len {A : Type} {E : Enc A} {H0 H : Heap} {Qs : List Asr} {v : Value} {l : List A} (h : Sep H0 H (lstA E v l :: Qs)) : lenV v = some (iv l.length) := by
  obtain ⟨T, ho⟩ := h.list; exact ho.len

def puts (sl : List (Pkt × Bool)) : List Pkt := sl.map (·.1)
def theres (sl : List (Pkt × Bool)) : List Bool := sl.map (·.2)
/-- how the law stands between two deeds -/
structure SumSt (H H' : Heap) (b : Nat) (v5 v6 : Value) (last : Int) (i : Nat) (sl : List (Pkt × Bool)) : Prop where
  sep : Sep H H' [logA b 256 last (live sl), lstA pktE v5 (puts sl), lstA boolE v6 (theres sl)]
  up : Up sl
  may : ∀ s ∈ sl, May s.1 ∧ s.1.num ≤ last
  len : sl.length ≤ i
  lo : -1 ≤ last
  hi : last ≤ 5 * i - 1
theorem find_live {sl : List (Pkt × Bool)} (h : Up sl) {k : Nat} (hk : k < sl.length) : (live sl).find? (fun p => p.num == sl[k].1.num) = if sl[k].2 then some sl[k].1 else none := by
  cases ht : sl[k].2
  · simp only [Bool.false_eq_true, if_false]
    exact find_live_none fun i hi e => by
      have := h.unique hi hk e
      subst this; exact ht
  · exact find_live_some h hk rfl ht
theorem flight_take {sl : List (Pkt × Bool)} {k : Nat} (hk : k < sl.length) :
    flight (live (sl.take (k + 1))) = flight (live (sl.take k)) + (if sl[k].2 && sl[k].1.fl then sl[k].1.size else 0) ∧
    elic (live (sl.take (k + 1))) = elic (live (sl.take k)) + (if sl[k].2 && sl[k].1.fl && sl[k].1.el then 1 else 0) ∧
    ((live (sl.take (k + 1))).length : Int) = (live (sl.take k)).length + (if sl[k].2 then 1 else 0) := by
  rw [within_take_succ hk, flight_app, elic_app, List.length_append]
  cases h1 : sl[k].2 <;> cases h2 : sl[k].1.fl <;> cases h3 : sl[k].1.el <;> simp [flight, elic, h2, h3]
theorem SumSt.ext {H H' H'' : Heap} {b : Nat} {v5 v6 : Value} {last : Int} {i : Nat} {sl : List (Pkt × Bool)} (h : SumSt H H' b v5 v6 last i sl)
    (hs : Sep H H'' [logA b 256 last (live sl), lstA pktE v5 (puts sl), lstA boolE v6 (theres sl)]) : SumSt H H'' b v5 v6 last i sl := ⟨hs, h.up, h.may, h.len, h.lo, h.hi⟩
theorem bin_neqbb {a : Bool} : binV .bool .neq (.bool a) (.bool a) = some (.bool false) := by rw [bin_neqb]; simp

/-- the packets are told over, one by one -/
theorem Sums_inner {H H1 : Heap} {b i : Nat} {v0 v5 v6 : Value} {last : Int} {sl : List (Pkt × Bool)} {K1 : Value → Value → Value → Value → Value → Value → Heap → Prop} {R : Value → Heap → Prop}
    (hi : i < 120) (h : SumSt H H1 b v5 v6 last (i + 1) sl) (hK : ∀ H', SumSt H H' b v5 v6 last (i + 1) sl → K1 v0 (ptr b) v5 v6 (iv last) (iv ((i + 1 : Nat) : Int)) H') :
    sounderlaw06_SentSums_s124 v0 (ptr b) v5 v6 (iv last) (iv i) K1 R H1 := by
  simp only [sounderlaw06_SentSums_s124, sounderlaw06_SentSums_g125, sounderlaw06_SentSums_g126, sounderlaw06_SentSums_g128, sounderlaw06_SentSums_g130, sounderlaw06_SentSums_g140, sounderlaw06_SentSums_g141, sounderlaw06_SentSums_g142, sounderlaw06_SentSums_g144, sounderlaw06_SentSums_g145, sounderlaw06_SentSums_g146, sounderlaw06_SentSums_g147, sounderlaw06_SentSums_g150, sounderlaw06_SentSums_g151, sounderlaw06_SentSums_g152, sounderlaw06_SentSums_g153, sounderlaw06_SentSums_g154, sounderlaw06_SentSums_l155, sounderlaw06_SentSums]
  have hlen := h.len
  refine ⟨fun w14 w15 w16 w17 H' => ∃ k : Nat, k ≤ sl.length ∧ w14 = iv (flight (live (sl.take k))) ∧ w15 = iv (elic (live (sl.take k))) ∧ w16 = iv (live (sl.take k)).length ∧ w17 = iv k ∧ SumSt H H' b v5 v6 last (i + 1) sl,
    fun _ _ _ w _ => (match w with | Value.int _ k => (sl.length - k).toNat | _ => 0), ⟨0, Nat.zero_le _, rfl, rfl, rfl, rfl, h⟩, ?_⟩
  clear h
  rintro w14 w15 w16 w17 H2 ⟨k, hk, rfl, rfl, rfl, rfl, h⟩
  have hs := h.sep
  simp only [sounderlaw06_SentSums_s127, sounderlaw06_SentSums_g125, sounderlaw06_SentSums_g126, sounderlaw06_SentSums_g128, sounderlaw06_SentSums_g130, sounderlaw06_SentSums_g140, sounderlaw06_SentSums_g141, sounderlaw06_SentSums_g142, sounderlaw06_SentSums_g144, sounderlaw06_SentSums_g145, sounderlaw06_SentSums_g146, sounderlaw06_SentSums_g147, sounderlaw06_SentSums_g150, sounderlaw06_SentSums_g151, sounderlaw06_SentSums_g152, sounderlaw06_SentSums_g153, sounderlaw06_SentSums_g154, sounderlaw06_SentSums_l155, sounderlaw06_SentSums]
  have hpl : (puts sl).length = sl.length := by simp [puts]
  have htl : (theres sl).length = sl.length := by simp [theres]
  have w1 : binV .int .add (iv k) (.int .i64 1) = some (iv ((k + 1 : Nat) : Int)) := by rw [bin_addw (by omega)]; rfl
  have hmayT : ∀ p ∈ live (sl.take k), May p := fun p hp => (h.may _ (List.mem_of_mem_take (mem_live.1 hp))).1
  have hfl := flight_le hmayT
  have hel := elic_le (L := live (sl.take k))
  have hll := live_len (sl := sl.take k)
  rw [List.length_take] at hll
  simp only [bnd_some, brV_t, brV_f, newE_u, pickE_t, pickE_f, nilV_p, faV_p, cells_int, cells_bool, cells_ptr, cells_slice, cells_func, cells_agg, bin_eql, bin_neq, bin_lss, bin_leq, bin_gtr, bin_geq, bin_eqlb, bin_neqb, bin_eqlp, bin_eqlp0, bin_neqp, bin_neqp0, bin_eqls, bin_eqls0, un_not, un_neg, len_s, ex_t, cv_i, callV_f, Option.bind_some, Option.map_some, Nat.zero_add, Nat.add_zero, Nat.reduceAdd, Nat.reduceMul, size_newB, size_setB, blk_newB_self, own_newB_self, setB_setB, List.getElem?_toArray, List.getElem?_cons_zero, List.getElem?_cons_succ, List.length_cons, List.length_nil, List.all_cons, List.all_nil, isCell_int, isCell_bool, isCell_ptr, isCell_slice, isCell_func, Bool.and_true, Bool.and_self, and_self, if_true, List.size_toArray, and_true, true_and, Nat.reduceLeDiff, Nat.le_refl, Bool.not_true, Bool.not_false, Bool.true_and, Bool.false_and, Bool.and_false, Int.reduceBNe, Int.reduceBEq, Int.reduceLT, Int.reduceLE, decide_true, decide_false, lst_len hs.b1, hpl]
  refine brV_d (fun hlt => ?_) (fun hlt => ?_)
  · have hkl : k < sl.length := by omega
    obtain ⟨pb, po, hx, hlx, hcx⟩ := lst_get hs.b1 (by decide) (by rw [hpl]; exact hkl) (j := k) rfl
    have hpk : (puts sl)[k]'(by rw [hpl]; exact hkl) = sl[k].1 := by simp [puts]
    rw [hpk] at hlx hcx
    have hx' : ixSV 6 v5 (iv k) = some (.pointer (some ⟨pb, po, none⟩)) := hx
    have hl0 : ldE false 1 (.pointer (some ⟨pb, po, none⟩)) H2 = some (iv sl[k].1.num) := hcx 0 _ (by decide) rfl
    simp only [bnd_some, brV_t, brV_f, newE_u, pickE_t, pickE_f, nilV_p, faV_p, cells_int, cells_bool, cells_ptr, cells_slice, cells_func, cells_agg, bin_eql, bin_neq, bin_lss, bin_leq, bin_gtr, bin_geq, bin_eqlb, bin_neqb, bin_eqlp, bin_eqlp0, bin_neqp, bin_neqp0, bin_eqls, bin_eqls0, un_not, un_neg, len_s, ex_t, cv_i, callV_f, Option.bind_some, Option.map_some, Nat.zero_add, Nat.add_zero, Nat.reduceAdd, Nat.reduceMul, size_newB, size_setB, blk_newB_self, own_newB_self, setB_setB, List.getElem?_toArray, List.getElem?_cons_zero, List.getElem?_cons_succ, List.length_cons, List.length_nil, List.all_cons, List.all_nil, isCell_int, isCell_bool, isCell_ptr, isCell_slice, isCell_func, Bool.and_true, Bool.and_self, and_self, if_true, List.size_toArray, and_true, true_and, Nat.reduceLeDiff, Nat.le_refl, Bool.not_true, Bool.not_false, Bool.true_and, Bool.false_and, Bool.and_false, Int.reduceBNe, Int.reduceBEq, Int.reduceLT, Int.reduceLE, decide_true, decide_false, hx', hl0]
    refine Get_sep hs fun H3 hs3 => ?_
    rw [find_live h.up hkl]
    have hop : opt (if sl[k].2 = true then some sl[k].1 else none) = .tuple #[pv (if sl[k].2 then sl[k].1 else pkt0), .bool sl[k].2] := by
      cases sl[k].2 <;> rfl
    rw [hop]
    simp only [bnd_some, brV_t, brV_f, newE_u, pickE_t, pickE_f, nilV_p, faV_p, cells_int, cells_bool, cells_ptr, cells_slice, cells_func, cells_agg, bin_eql, bin_neq, bin_lss, bin_leq, bin_gtr, bin_geq, bin_eqlb, bin_neqb, bin_eqlp, bin_eqlp0, bin_neqp, bin_neqp0, bin_eqls, bin_eqls0, un_not, un_neg, len_s, ex_t, cv_i, callV_f, Option.bind_some, Option.map_some, Nat.zero_add, Nat.add_zero, Nat.reduceAdd, Nat.reduceMul, size_newB, size_setB, blk_newB_self, own_newB_self, setB_setB, List.getElem?_toArray, List.getElem?_cons_zero, List.getElem?_cons_succ, List.length_cons, List.length_nil, List.all_cons, List.all_nil, isCell_int, isCell_bool, isCell_ptr, isCell_slice, isCell_func, Bool.and_true, Bool.and_self, and_self, if_true, List.size_toArray, and_true, true_and, Nat.reduceLeDiff, Nat.le_refl, Bool.not_true, Bool.not_false, Bool.true_and, Bool.false_and, Bool.and_false, Int.reduceBNe, Int.reduceBEq, Int.reduceLT, Int.reduceLE, decide_true, decide_false, pkt0_C]
    obtain ⟨H4, hst, hs4⟩ := newP_sep (p := pkt0) (q := if sl[k].2 then sl[k].1 else pkt0) (t := 30) hs3
    simp only [hst, bnd_some]
    obtain ⟨tb, to, hy, hly, hcy⟩ := lst_get hs4.b3 (by decide) (by rw [htl]; exact hkl) (j := k) rfl
    have htk : (theres sl)[k]'(by rw [htl]; exact hkl) = sl[k].2 := by simp [theres]
    rw [htk] at hly hcy
    have hy' : ixSV 1 v6 (iv k) = some (.pointer (some ⟨tb, to, none⟩)) := hy
    have hl1 : ldE false 1 (.pointer (some ⟨tb, to, none⟩)) H4 = some (.bool sl[k].2) := hcy 0 _ (by decide) rfl
    obtain ⟨pb2, po2, hx2, hlx2, _⟩ := lst_get hs4.b2 (by decide) (by rw [hpl]; exact hkl) (j := k) rfl
    rw [hpk] at hlx2
    have eqa := hx.symm.trans hx2
    simp only [Option.some.injEq, Value.pointer.injEq, Addr.mk.injEq, and_true] at eqa
    obtain ⟨rfl, rfl⟩ := eqa
    have hx2' : ixSV 6 v5 (iv k) = some (.pointer (some ⟨pb, po, none⟩)) := hx2
    have hlx2' : ldE true 6 (.pointer (some ⟨pb, po, none⟩)) H4 = some (pv sl[k].1) := hlx2
    have hp := ldP_sep hs4
    have hc2 : ldE false 1 (.pointer (some ⟨H3.size, 2, none⟩)) H4 = some (iv (if sl[k].2 then sl[k].1 else pkt0).size) := ld_ptr (own_blk hs4.cells) pktC_2
    have hc3 : ldE false 1 (.pointer (some ⟨H3.size, 3, none⟩)) H4 = some (.bool (if sl[k].2 then sl[k].1 else pkt0).el) := ld_ptr (own_blk hs4.cells) pktC_3
    have hc4 : ldE false 1 (.pointer (some ⟨H3.size, 4, none⟩)) H4 = some (.bool (if sl[k].2 then sl[k].1 else pkt0).fl) := ld_ptr (own_blk hs4.cells) pktC_4
    have hst4 : SumSt H H4 b v5 v6 last (i + 1) sl := h.ext hs4.drop
    obtain ⟨f1, f2, f3⟩ := flight_take hkl
    have hm1 := (h.may _ (List.getElem_mem hkl)).1
    have hsz : 1 ≤ sl[k].1.size ∧ sl[k].1.size ≤ 65535 := by unfold May at hm1; omega
    simp only [hy', bnd_some, hl1, bin_neqbb, brV_f]
    cases ht : sl[k].2
    · rw [ht] at f1 f2 f3
      simp only [Bool.false_and, Bool.false_eq_true, if_false, Int.add_zero] at f1 f2 f3
      simp only [brV_f, sounderlaw06_SentSums_s143, sounderlaw06_SentSums_s129, sounderlaw06_SentSums_g125, sounderlaw06_SentSums_g126, sounderlaw06_SentSums_g128, sounderlaw06_SentSums_g130, sounderlaw06_SentSums_g140, sounderlaw06_SentSums_g141, sounderlaw06_SentSums_g142, sounderlaw06_SentSums_g144, sounderlaw06_SentSums_g145, sounderlaw06_SentSums_g146, sounderlaw06_SentSums_g147, sounderlaw06_SentSums_g150, sounderlaw06_SentSums_g151, sounderlaw06_SentSums_g152, sounderlaw06_SentSums_g153, sounderlaw06_SentSums_g154, sounderlaw06_SentSums_l155, sounderlaw06_SentSums]
      simp only [w1, bnd_some]
      first | exact ⟨⟨k + 1, by omega, by rw [f1], by rw [f2], by rw [f3], rfl, hst4⟩, by omega⟩ | exact ⟨trivial, trivial, trivial, trivial, trivial, trivial, ⟨k + 1, by omega, by rw [f1], by rw [f2], by rw [f3], rfl, hst4⟩, by omega⟩
    · rw [ht] at hp hc2 hc3 hc4 f1 f2 f3
      simp only [if_true] at hp hc2 hc3 hc4
      simp only [Bool.true_and, if_true] at f1 f2 f3
      have e1 : (!decide (sl[k].1 = sl[k].1)) = false := by simp
      have w3 : binV .int .add (iv (live (sl.take k)).length) (.int .i64 1) = some (iv ((live (sl.take k)).length + 1 : Int)) := bin_addw (by omega)
      have w4 : binV .int .add (iv (flight (live (sl.take k)))) (iv sl[k].1.size) = some (iv (flight (live (sl.take k)) + sl[k].1.size)) := bin_addw (by omega)
      have w5 : binV .int .add (iv (elic (live (sl.take k)))) (.int .i64 1) = some (iv (elic (live (sl.take k)) + 1)) := bin_addw (by omega)
      have hp' : ldE true 6 (ptr H3.size) H4 = some (pv sl[k].1) := hp
      simp only [brV_t, hp', bnd_some, hx2', hlx2', bin_neP, e1, brV_f, w3, sounderlaw06_SentSums_s143, sounderlaw06_SentSums_s129, sounderlaw06_SentSums_g125, sounderlaw06_SentSums_g126, sounderlaw06_SentSums_g128, sounderlaw06_SentSums_g130, sounderlaw06_SentSums_g140, sounderlaw06_SentSums_g141, sounderlaw06_SentSums_g142, sounderlaw06_SentSums_g144, sounderlaw06_SentSums_g145, sounderlaw06_SentSums_g146, sounderlaw06_SentSums_g147, sounderlaw06_SentSums_g150, sounderlaw06_SentSums_g151, sounderlaw06_SentSums_g152, sounderlaw06_SentSums_g153, sounderlaw06_SentSums_g154, sounderlaw06_SentSums_l155, sounderlaw06_SentSums]
      simp only [faV_p, Nat.zero_add, bnd_some, hc4]
      cases hfl2 : sl[k].1.fl
      · rw [hfl2] at f1 f2
        simp only [Bool.false_and, Bool.false_eq_true, if_false, Int.add_zero] at f1 f2
        simp only [brV_f, w1, bnd_some]
        first | exact ⟨⟨k + 1, by omega, by rw [f1], by rw [f2], by rw [f3], rfl, hst4⟩, by omega⟩ | exact ⟨trivial, trivial, trivial, trivial, trivial, trivial, ⟨k + 1, by omega, by rw [f1], by rw [f2], by rw [f3], rfl, hst4⟩, by omega⟩
      · rw [hfl2] at f1 f2
        simp only [Bool.true_and, if_true] at f1 f2
        simp only [brV_t, faV_p, Nat.zero_add, bnd_some, hc2, w4, hc3]
        cases hel2 : sl[k].1.el
        · rw [hel2] at f2
          simp only [Bool.false_eq_true, if_false, Int.add_zero] at f2
          simp only [brV_f, w1, bnd_some]
          first | exact ⟨⟨k + 1, by omega, by rw [f1], by rw [f2], by rw [f3], rfl, hst4⟩, by omega⟩ | exact ⟨trivial, trivial, trivial, trivial, trivial, trivial, ⟨k + 1, by omega, by rw [f1], by rw [f2], by rw [f3], rfl, hst4⟩, by omega⟩
        · rw [hel2] at f2
          simp only [if_true] at f2
          simp only [brV_t, w5, w1, bnd_some]
          first | exact ⟨⟨k + 1, by omega, by rw [f1], by rw [f2], by rw [f3], rfl, hst4⟩, by omega⟩ | exact ⟨trivial, trivial, trivial, trivial, trivial, trivial, ⟨k + 1, by omega, by rw [f1], by rw [f2], by rw [f3], rfl, hst4⟩, by omega⟩
  · have hkl : k = sl.length := by omega
    subst hkl
    simp only [List.take_length]
    refine Flight_sep hs fun H3 hs => ?_
    have r1 : ∀ z : Int, (z != z) = false := fun z => by simp
    simp only [bnd_some, brV_t, brV_f, newE_u, pickE_t, pickE_f, nilV_p, faV_p, cells_int, cells_bool, cells_ptr, cells_slice, cells_func, cells_agg, bin_eql, bin_neq, bin_lss, bin_leq, bin_gtr, bin_geq, bin_eqlb, bin_neqb, bin_eqlp, bin_eqlp0, bin_neqp, bin_neqp0, bin_eqls, bin_eqls0, un_not, un_neg, len_s, ex_t, cv_i, callV_f, Option.bind_some, Option.map_some, Nat.zero_add, Nat.add_zero, Nat.reduceAdd, Nat.reduceMul, size_newB, size_setB, blk_newB_self, own_newB_self, setB_setB, List.getElem?_toArray, List.getElem?_cons_zero, List.getElem?_cons_succ, List.length_cons, List.length_nil, List.all_cons, List.all_nil, isCell_int, isCell_bool, isCell_ptr, isCell_slice, isCell_func, Bool.and_true, Bool.and_self, and_self, if_true, List.size_toArray, and_true, true_and, Nat.reduceLeDiff, Nat.le_refl, Bool.not_true, Bool.not_false, Bool.true_and, Bool.false_and, Bool.and_false, Int.reduceBNe, Int.reduceBEq, Int.reduceLT, Int.reduceLE, decide_true, decide_false, r1]
    refine Eliciting_sep hs fun H4 hs => ?_
    simp only [bnd_some, brV_t, brV_f, newE_u, pickE_t, pickE_f, nilV_p, faV_p, cells_int, cells_bool, cells_ptr, cells_slice, cells_func, cells_agg, bin_eql, bin_neq, bin_lss, bin_leq, bin_gtr, bin_geq, bin_eqlb, bin_neqb, bin_eqlp, bin_eqlp0, bin_neqp, bin_neqp0, bin_eqls, bin_eqls0, un_not, un_neg, len_s, ex_t, cv_i, callV_f, Option.bind_some, Option.map_some, Nat.zero_add, Nat.add_zero, Nat.reduceAdd, Nat.reduceMul, size_newB, size_setB, blk_newB_self, own_newB_self, setB_setB, List.getElem?_toArray, List.getElem?_cons_zero, List.getElem?_cons_succ, List.length_cons, List.length_nil, List.all_cons, List.all_nil, isCell_int, isCell_bool, isCell_ptr, isCell_slice, isCell_func, Bool.and_true, Bool.and_self, and_self, if_true, List.size_toArray, and_true, true_and, Nat.reduceLeDiff, Nat.le_refl, Bool.not_true, Bool.not_false, Bool.true_and, Bool.false_and, Bool.and_false, Int.reduceBNe, Int.reduceBEq, Int.reduceLT, Int.reduceLE, decide_true, decide_false, r1]
    refine Len_sep hs fun H5 hs => ?_
    simp only [bnd_some, brV_t, brV_f, newE_u, pickE_t, pickE_f, nilV_p, faV_p, cells_int, cells_bool, cells_ptr, cells_slice, cells_func, cells_agg, bin_eql, bin_neq, bin_lss, bin_leq, bin_gtr, bin_geq, bin_eqlb, bin_neqb, bin_eqlp, bin_eqlp0, bin_neqp, bin_neqp0, bin_eqls, bin_eqls0, un_not, un_neg, len_s, ex_t, cv_i, callV_f, Option.bind_some, Option.map_some, Nat.zero_add, Nat.add_zero, Nat.reduceAdd, Nat.reduceMul, size_newB, size_setB, blk_newB_self, own_newB_self, setB_setB, List.getElem?_toArray, List.getElem?_cons_zero, List.getElem?_cons_succ, List.length_cons, List.length_nil, List.all_cons, List.all_nil, isCell_int, isCell_bool, isCell_ptr, isCell_slice, isCell_func, Bool.and_true, Bool.and_self, and_self, if_true, List.size_toArray, and_true, true_and, Nat.reduceLeDiff, Nat.le_refl, Bool.not_true, Bool.not_false, Bool.true_and, Bool.false_and, Bool.and_false, Int.reduceBNe, Int.reduceBEq, Int.reduceLT, Int.reduceLE, decide_true, decide_false, r1]
    refine All_sep hs fun H6 va hs => ?_
    simp only [bnd_some, brV_t, brV_f, newE_u, pickE_t, pickE_f, nilV_p, faV_p, cells_int, cells_bool, cells_ptr, cells_slice, cells_func, cells_agg, bin_eql, bin_neq, bin_lss, bin_leq, bin_gtr, bin_geq, bin_eqlb, bin_neqb, bin_eqlp, bin_eqlp0, bin_neqp, bin_neqp0, bin_eqls, bin_eqls0, un_not, un_neg, len_s, ex_t, cv_i, callV_f, Option.bind_some, Option.map_some, Nat.zero_add, Nat.add_zero, Nat.reduceAdd, Nat.reduceMul, size_newB, size_setB, blk_newB_self, own_newB_self, setB_setB, List.getElem?_toArray, List.getElem?_cons_zero, List.getElem?_cons_succ, List.length_cons, List.length_nil, List.all_cons, List.all_nil, isCell_int, isCell_bool, isCell_ptr, isCell_slice, isCell_func, Bool.and_true, Bool.and_self, and_self, if_true, List.size_toArray, and_true, true_and, Nat.reduceLeDiff, Nat.le_refl, Bool.not_true, Bool.not_false, Bool.true_and, Bool.false_and, Bool.and_false, Int.reduceBNe, Int.reduceBEq, Int.reduceLT, Int.reduceLE, decide_true, decide_false, lst_len hs, r1]
    refine Last_sep hs.drop ?_
    have w6 : binV .int .add (iv i) (.int .i64 1) = some (iv ((i + 1 : Nat) : Int)) := by rw [bin_addw (by omega)]; rfl
    simp only [bnd_some, brV_t, brV_f, newE_u, pickE_t, pickE_f, nilV_p, faV_p, cells_int, cells_bool, cells_ptr, cells_slice, cells_func, cells_agg, bin_eql, bin_neq, bin_lss, bin_leq, bin_gtr, bin_geq, bin_eqlb, bin_neqb, bin_eqlp, bin_eqlp0, bin_neqp, bin_neqp0, bin_eqls, bin_eqls0, un_not, un_neg, len_s, ex_t, cv_i, callV_f, Option.bind_some, Option.map_some, Nat.zero_add, Nat.add_zero, Nat.reduceAdd, Nat.reduceMul, size_newB, size_setB, blk_newB_self, own_newB_self, setB_setB, List.getElem?_toArray, List.getElem?_cons_zero, List.getElem?_cons_succ, List.length_cons, List.length_nil, List.all_cons, List.all_nil, isCell_int, isCell_bool, isCell_ptr, isCell_slice, isCell_func, Bool.and_true, Bool.and_self, and_self, if_true, List.size_toArray, and_true, true_and, Nat.reduceLeDiff, Nat.le_refl, Bool.not_true, Bool.not_false, Bool.true_and, Bool.false_and, Bool.and_false, Int.reduceBNe, Int.reduceBEq, Int.reduceLT, Int.reduceLE, decide_true, decide_false, r1, w6]
    exact hK _ (h.ext hs.drop)
end Go.Hc
